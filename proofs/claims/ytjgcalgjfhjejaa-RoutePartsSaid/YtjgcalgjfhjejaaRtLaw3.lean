/-
  The walk of RouteParts.
-/
import Derived.Test.YtjgcalgjfhjejaaRtLaw
import Derived.Test.YtjgcalgjfhjejaaCopy
namespace Go.Ox.Rt
theorem allP_snoc : ∀ (ls : List (List Rec.R)) (x : List Rec.R), Rec.allP (ls ++ [x]) = if Rec.allP ls = 0 then Rec.may x else Rec.allP ls
  | [], x => by
    rw [show Rec.allP [] = 0 from rfl, if_pos rfl, List.nil_append]
    by_cases h : Rec.may x = 0
    · rw [Rec.allP_ok h, h]; rfl
    · rw [Rec.allP_bad h]
  | l :: ls, x => by
    rw [List.cons_append]
    by_cases h : Rec.may l = 0
    · rw [Rec.allP_ok h, Rec.allP_ok h]; exact allP_snoc ls x
    · rw [Rec.allP_bad h, Rec.allP_bad h, if_neg h]
theorem allP_take (ls : List (List Rec.R)) {k : Nat} (h : k < ls.length) : Rec.allP (ls.take (k + 1)) = if Rec.allP (ls.take k) = 0 then Rec.may ls[k] else Rec.allP (ls.take k) := by
  rw [List.take_succ_eq_append_getElem h]; exact allP_snoc _ _
theorem allP_mem : ∀ {ls : List (List Rec.R)}, Rec.allP ls = 0 → ∀ x ∈ ls, Rec.may x = 0
  | l :: ls, h, x, hx => by
    by_cases hm : Rec.may l = 0
    · rw [Rec.allP_ok hm] at h
      rcases List.mem_cons.1 hx with q | q
      · rw [q]; exact hm
      · exact allP_mem h x q
    · rw [Rec.allP_bad hm] at h; exact absurd h hm
/-- what the statement looks for is what Join tells -/
theorem join_want (ls : List (List Rec.R)) : joinE ls = if Rec.allP ls = 0 ∧ 4096 < ls.flatten.length then 31 else Rec.allP ls := by
  unfold joinE
  by_cases h : Rec.allP ls = 0
  · rw [if_neg (by simpa using h)]
    have hok : ∀ x ∈ ls.flatten, Rec.ok x = true := fun x hx => by
      obtain ⟨y, hy, hxy⟩ := List.mem_flatten.1 hx
      exact (Rec.may_ok (allP_mem h y hy)).1 x hxy
    by_cases hl : 4096 < ls.flatten.length
    · rw [if_pos ⟨h, hl⟩]
      unfold Rec.may
      rw [if_neg, if_pos hl]
      intro q
      obtain ⟨x, hx, he⟩ := List.any_eq_true.1 q
      rw [hok x hx] at he; cases he
    · rw [if_neg (fun q => hl q.2), h]
      exact Rec.may_of hok (by omega)
  · rw [if_pos h, if_neg (fun q => h q.1)]
theorem flat_step (ls : List (List Rec.R)) {k : Nat} (h : k < ls.length) : (ls.take (k + 1)).flatten.length = (ls.take k).flatten.length + ls[k].length := by
  have h9 := congrArg List.length (flat_snocV ls h); rw [List.length_append] at h9; exact h9
end Go.Ox.Rt
namespace Go.Proofs.Ytjgcalgjfhjejaa
open Go.RowKit Go.Ox Go.Shelf
open Go.Ox.Rec (when0 when0_ok when0_no)
attribute [local irreducible] OP RP
set_option linter.unusedVariables false
set_option linter.unusedSimpArgs false

theorem sameE_is (v u : Value) (l : List Ent.E) (w : World) (hv : RE w v l) (hu : RE w u l) : Calls Try.prog 15 #[v, u] w fun e w' => e = .returned (.bool true) ∧ Ext w w' := by
  refine (sameE_any v u l l w hv hu).mono ?_
  rw [decide_eq_true rfl]
  exact fun _ _ h => h
/-- a moment's box -/
structure Bm (w : World) (p : Nat) (a b : Int) : Prop where
  c0 : w.cell? ⟨p, 0, none⟩ = some (.int .i64 a)
  c1 : w.cell? ⟨p, 1, none⟩ = some (.int .i64 b)
theorem Bm.ext {w w' : World} {p : Nat} {a b : Int} (h : Bm w p a b) (he : Ext w w') : Bm w' p a b := ⟨he.cell h.c0, he.cell h.c1⟩
/-- what RouteParts looks at -/
structure PtI (w : World) (v u : Value) (p : Nat) (ls : List (List Rec.R)) (l : List Rec.R) (m1 m2 : Int) : Prop where
  ps : RRS w v ls
  l : RP w u l
  m : Bm w p m1 m2
theorem PtI.ext {w w' : World} {v u : Value} {p : Nat} {ls : List (List Rec.R)} {l : List Rec.R} {m1 m2 : Int} (h : PtI w v u p ls l m1 m2) (he : Ext w w') : PtI w' v u p ls l m1 m2 := ⟨h.ps.extE he, h.l.ext he, h.m.ext he⟩
/-- behind the first loop: what is too large is not looked at -/
structure Small (ls : List (List Rec.R)) (l : List Rec.R) : Prop where
  a : ls.length ≤ 20
  b : l.length ≤ 5000
  c : ls.flatten.length ≤ 20000
  d : ∀ x ∈ ls, x.length ≤ 5000

set_option maxRecDepth 100000 in
set_option maxHeartbeats 8000000 in
theorem routeParts_any (v u : Value) (ls : List (List Rec.R)) (l : List Rec.R) (m : Int × Int) (w : World) (hv : RRS w v ls) (hu : RP w u l) :
    Calls Try.prog 4 #[v, u, mV m] w fun e w' => e = .returned (.bool true) ∧ Ext w w' := by
  have hm9 := hv.len_le
  have hm8 := hu.rd.len_le
  unfold maxLen at hm9 hm8
  obtain ⟨A, c, rfl⟩ := hv.form
  obtain ⟨B, d, rfl⟩ := hu.form
  have HJO := Lib.hid (fun w h (q : Small ls l) => join_any (.slice A ls.length c) ls w h (fun x hx => Nat.le_trans (q.d x hx) (by omega)) (by have := q.c; omega))
  have HST := Lib.hid (fun w h (q : Small ls l) => stamp_any (.slice B l.length d) l m w h (by have := q.b; omega))
  have HRL := Lib.hid (fun w h (q : Small ls l) => rmay_any (.slice B l.length d) l w h (by have := q.b; omega))
  have HRC := Lib.hid (fun w => Mo.rcheck_any m w)
  have HSE := Lib.hid (show Rt.stampE l m = if Mom.ok m = true then Rec.may l else 40 from rfl)
  have HJW := Lib.hid (Rt.join_want ls)
  obtain ⟨m1, m2⟩ := m
  have HX0 := Lib.hid ((Ext.refl w).alloc (.cells #[.int .i64 m1, .int .i64 m2] 35))
  have HI0 := Lib.hid (PtI.mk (hv.extE HX0.out) (hu.ext HX0.out) (Bm.mk ((Blk.new w 35 #[.int .i64 m1, .int .i64 m2]).cell 0) ((Blk.new w 35 #[.int .i64 m1, .int .i64 m2]).cell 1)))
  clear hv hu
  go_enter Try.func4, Try.ntmps4
  go_upto_region 3 with fail
  generalize w.heap.size = p at *
  generalize w.alloc (.cells #[.int .i64 m1, .int .i64 m2] 35) = w0 at *
  go_loopw [7, 8] (fun sv iv wr => ∃ k : Nat, k ≤ ls.length ∧ k ≤ 30 ∧ iv = .int .i64 (k : Int) ∧ sv = .int .i64 ((ls.take k).flatten.length : Int) ∧ (∀ (i : Nat) (hi : i < ls.length), i < k → ls[i].length ≤ 5000) ∧ (ls.take k).flatten.length ≤ k * 5000 ∧ wr = w0) (fun _ iv _ => ls.length - (intOf iv).toNat)
  case atStart => exact ⟨0, Nat.zero_le _, Nat.zero_le _, rfl, rfl, fun i _ h => absurd h (Nat.not_lt_zero _), by simp, rfl⟩
  case round =>
    obtain ⟨k, hk, hk30, rfl, rfl, hall, hsum, rfl⟩ := hrel
    have HALL := Lib.hid hall
    have HSUM := Lib.hid hsum
    have hsb : (ls.take k).flatten.length ≤ 150000 := by omega
    clear hall hsum
    by_cases hlt : k < ls.length ∧ k < 30
    · obtain ⟨hlt, h30⟩ := hlt
      have g1 : (k : Int) < (ls.length : Int) := by omega
      have g1n : k < ls.length := hlt
      have g2 : (k : Int) < 30 := by omega
      have g0 : 0 ≤ (k : Int) := by omega
      have HLT := Lib.hid (And.intro hlt h30)
      have HFS := Lib.hid (Rt.flat_step ls hlt)
      obtain ⟨bP, oP, x, rfl, d0, hx⟩ := HI0.out.ps.at_ hlt
      obtain ⟨Ax, cx, hAx⟩ := hx.form
      have HXL := Lib.hid (show ls[k].length ≤ 5000 → ∀ (i : Nat) (hi : i < ls.length), i < k + 1 → ls[i].length ≤ 5000 from fun h i hi h2 => by
        by_cases q : i = k
        · subst q; exact h
        · exact HALL.out i hi (by omega))
      generalize ls[k] = row at *
      subst hAx
      generalize (ls.take k).flatten.length = sm at *
      clear hk hk30 hlt h30 hx
      by_cases h5 : 5000 < row.length
      · have f5 : (5000 : Int) < (row.length : Int) := by omega
        clear h5
        go_wp2_with fail
        refine (lives_any _).mono ?_
        rintro e w1 ⟨rfl, he1⟩
        go_wp2
        go_ret
        exact ⟨rfl, HX0.out.trans he1⟩
      · have f5 : ¬ (5000 : Int) < (row.length : Int) := by omega
        have HR5 := Lib.hid (show row.length ≤ 5000 by omega)
        have hrb : row.length ≤ 5000 := by omega
        clear h5
        go_wp2
        exact ⟨⟨k + 1, HLT.out.1, HLT.out.2, by go_num, by rw [HFS.out]; go_num, HXL.out HR5.out, by rw [HFS.out]; have := HSUM.out; have := HR5.out; omega, trivial⟩, by have := HLT.out; simp [intOf]; omega⟩
    · have HSM := Lib.hid (show ls.length ≤ 20 → (ls.take k).flatten.length = ls.flatten.length ∧ ∀ x ∈ ls, x.length ≤ 5000 from fun h => by
        have hk2 : k = ls.length := by omega
        refine ⟨by rw [hk2, List.take_length], fun x hx => ?_⟩
        obtain ⟨i, hi, rfl⟩ := List.getElem_of_mem hx
        exact HALL.out i hi (by omega))
      generalize (ls.take k).flatten.length = sm at *
      by_cases hA : 20 < ls.length
      · have f1 : (20 : Int) < (ls.length : Int) := by omega
        by_cases hkl : k < ls.length
        · have f2 : (k : Int) < (ls.length : Int) := by omega
          have f3 : ¬ (k : Int) < 30 := by omega
          clear hk hk30 hlt hA hkl
          go_wp2_with fail
          refine (lives_any _).mono ?_
          rintro e w1 ⟨rfl, he1⟩
          go_wp2
          go_ret
          exact ⟨rfl, HX0.out.trans he1⟩
        · have f2 : ¬ (k : Int) < (ls.length : Int) := by omega
          clear hk hk30 hlt hA hkl
          go_wp2_with fail
          refine (lives_any _).mono ?_
          rintro e w1 ⟨rfl, he1⟩
          go_wp2
          go_ret
          exact ⟨rfl, HX0.out.trans he1⟩
      have f1 : ¬ (20 : Int) < (ls.length : Int) := by omega
      have f2 : ¬ (k : Int) < (ls.length : Int) := by omega
      have HA20 := Lib.hid (show ls.length ≤ 20 by omega)
      clear hk hk30 hlt hA
      by_cases hB : 5000 < l.length
      · have f3 : (5000 : Int) < (l.length : Int) := by omega
        clear hB
        go_wp2_with fail
        refine (lives_any _).mono ?_
        rintro e w1 ⟨rfl, he1⟩
        go_wp2
        go_ret
        exact ⟨rfl, HX0.out.trans he1⟩
      have f3 : ¬ (5000 : Int) < (l.length : Int) := by omega
      by_cases hC : 20000 < sm
      · have f4 : (20000 : Int) < (sm : Int) := by omega
        clear hB hC
        go_wp2_with fail
        refine (lives_any _).mono ?_
        rintro e w1 ⟨rfl, he1⟩
        go_wp2
        go_ret
        exact ⟨rfl, HX0.out.trans he1⟩
      have f4 : ¬ (20000 : Int) < (sm : Int) := by omega
      have HQ := Lib.hid (show Small ls l from ⟨HA20.out, by omega, by have := (HSM.out HA20.out).1; omega, (HSM.out HA20.out).2⟩)
      have HJO := Lib.hid (fun w h => HJO.out w h HQ.out)
      have HST := Lib.hid (fun w h => HST.out w h HQ.out)
      have HRL := Lib.hid (fun w h => HRL.out w h HQ.out)
      clear hB hC HSM HA20 HALL HSUM hsb
      go_upto_region 10 with fail
      have HIA := Lib.hid HI0.out
      have HXA := Lib.hid HX0.out
      clear HI0 HX0 f1 f2 f3 f4
      go_wp2_with fail
      refine (HJO.out _ HIA.out.ps).mono ?_
      rintro e w1 ⟨j, rfl, hj1, he1⟩
      obtain ⟨A1, c1, rfl⟩ := hj1.form
      have HJ1 := Lib.hid hj1
      have HI1 := Lib.hid (HIA.out.ext he1)
      have HX1 := Lib.hid (HXA.out.trans he1)
      clear hj1 he1 HIA HXA HJO
      obtain ⟨c0, c1'⟩ := HI1.out.m
      go_wp2_with fail
      refine (HST.out _ HI1.out.l).mono ?_
      rintro e w2 ⟨s, rfl, hs2, he2⟩
      obtain ⟨AS, cS, rfl⟩ := hs2.form
      have HS2 := Lib.hid hs2
      have HJ2 := Lib.hid (HJ1.out.ext he2)
      have HI2 := Lib.hid (HI1.out.ext he2)
      have HX2 := Lib.hid (HX1.out.trans he2)
      clear hs2 he2 HJ1 HI1 HX1 c0 c1' HST
      generalize Rt.joinE ls = je at *
      generalize hse0 : Rt.stampE l (m1, m2) = se at *
      clear hse0
      generalize hml0 : Rec.may l = ml at *
      clear hml0
      generalize hok0 : Mom.ok (m1, m2) = ok at *
      clear hok0
      go_wp2
      go_loopw [13, 14, 15] (fun wv o iv wr => ∃ k : Nat, k ≤ ls.length ∧ iv = .int .i64 (k : Int) ∧ wv = .int .i64 (Rec.allP (ls.take k)) ∧ OP 42 w2.heap.size wr o (ls.take k).flatten ∧ Ext w2 wr) (fun _ _ iv _ => ls.length - (intOf iv).toNat)
      case atStart => exact ⟨0, Nat.zero_le _, rfl, rfl, OP.nilS _ _ _, Ext.refl _⟩
      case round =>
        obtain ⟨k, hk, rfl, rfl, ho, hext⟩ := hrel
        rename World => wr
        have HE := Lib.hid hext
        have HO := Lib.hid ho
        have HFB := Lib.hid (show (ls.take k).flatten.length ≤ 20000 by have := flat_leV ls k; have := HQ.out.c; omega)
        by_cases hlt : k < ls.length
        · have g1 : (k : Int) < (ls.length : Int) := by omega
          have g1n : k < ls.length := hlt
          have g0 : 0 ≤ (k : Int) := by omega
          have hkb : k ≤ 1000000 := by have := HQ.out.a; omega
          have HLT := Lib.hid hlt
          obtain ⟨bP, oP, x, rfl, d0, hx⟩ := (HI2.out.ps.extE hext).at_ hlt
          obtain ⟨Ax, cx, hAx⟩ := hx.form
          have HU := Lib.hid hx
          have HRB := Lib.hid (HQ.out.d _ (List.getElem_mem hlt))
          have HAT := Lib.hid (Rt.allP_take ls hlt)
          have HFN := Lib.hid (flat_snocV ls hlt)
          generalize ls[k] = row at *
          subst hAx
          have HMR := Lib.hid (fun v w h => rmay_any v row w h (by have := HRB.out; omega))
          obtain ⟨AO, cO, rfl⟩ := ho.rp.form
          generalize (ls.take k).flatten = fl at *
          generalize Rec.allP (ls.take k) = wt at *
          generalize Rec.may row = mr at *
          clear hext hk hlt hx ho
          by_cases hmr : mr = 0
          · subst hmr
            have HW := Lib.hid (show Rec.allP (ls.take (k + 1)) = wt by
              rw [HAT.out]; split
              · rename_i q; exact q.symm
              · rfl)
            clear HAT
            go_wp2_with fail
            refine (HMR.out _ _ HU.out).mono ?_
            rintro e w3 ⟨rfl, he3⟩
            have d0 := he3.cell d0
            have HU3 := Lib.hid (HU.out.ext he3)
            have HO3 := Lib.hid (HO.out.ext he3)
            have HX3 := Lib.hid (HE.out.trans he3)
            clear he3
            go_wp2_with (at_builtin; refine wpList_app rfl elemM _ _ _ rfl w2.heap.size _ fl.length (pV fl) rfl HO3.out.own _ row.length (pV row) rfl HU3.out.rd (one_pV _) (by have := HFB.out; have := HRB.out; omega) (by have := HFB.out; have := HRB.out; unfold maxLen; omega) HX3.out.size ?_; intro v7 w7 ha)
            exact ⟨⟨k + 1, HLT.out, by go_num, by rw [HW.out], by rw [HFN.out]; exact OP.app ha.own, ha.ext HX3.out rfl HO3.out.own⟩, by have := HLT.out; simp [intOf]; omega⟩
          · have n1 : (mr != 0) = true := by simpa using hmr
            by_cases hwt : wt = 0
            · have n2 : (wt == 0) = true := by simpa using hwt
              have HW := Lib.hid (show Rec.allP (ls.take (k + 1)) = mr by rw [HAT.out, if_pos hwt])
              clear HAT hmr hwt
              go_wp2_with fail
              refine (HMR.out _ _ HU.out).mono ?_
              rintro e w3 ⟨rfl, he3⟩
              have d0 := he3.cell d0
              have HU3 := Lib.hid (HU.out.ext he3)
              have HO3 := Lib.hid (HO.out.ext he3)
              have HX3 := Lib.hid (HE.out.trans he3)
              clear he3
              go_wp2_with (at_builtin; refine wpList_app rfl elemM _ _ _ rfl w2.heap.size _ fl.length (pV fl) rfl HO3.out.own _ row.length (pV row) rfl HU3.out.rd (one_pV _) (by have := HFB.out; have := HRB.out; omega) (by have := HFB.out; have := HRB.out; unfold maxLen; omega) HX3.out.size ?_; intro v7 w7 ha)
              exact ⟨⟨k + 1, HLT.out, by go_num, by rw [HW.out], by rw [HFN.out]; exact OP.app ha.own, ha.ext HX3.out rfl HO3.out.own⟩, by have := HLT.out; simp [intOf]; omega⟩
            · have n2 : (wt == 0) = false := by simpa using hwt
              have HW := Lib.hid (show Rec.allP (ls.take (k + 1)) = wt by rw [HAT.out, if_neg hwt])
              clear HAT hmr hwt
              go_wp2_with fail
              refine (HMR.out _ _ HU.out).mono ?_
              rintro e w3 ⟨rfl, he3⟩
              have d0 := he3.cell d0
              have HU3 := Lib.hid (HU.out.ext he3)
              have HO3 := Lib.hid (HO.out.ext he3)
              have HX3 := Lib.hid (HE.out.trans he3)
              clear he3
              go_wp2_with (at_builtin; refine wpList_app rfl elemM _ _ _ rfl w2.heap.size _ fl.length (pV fl) rfl HO3.out.own _ row.length (pV row) rfl HU3.out.rd (one_pV _) (by have := HFB.out; have := HRB.out; omega) (by have := HFB.out; have := HRB.out; unfold maxLen; omega) HX3.out.size ?_; intro v7 w7 ha)
              exact ⟨⟨k + 1, HLT.out, by go_num, by rw [HW.out], by rw [HFN.out]; exact OP.app ha.own, ha.ext HX3.out rfl HO3.out.own⟩, by have := HLT.out; simp [intOf]; omega⟩
        · have hk2 : k = ls.length := by omega
          subst hk2
          have g1 : ¬ (ls.length : Int) < (ls.length : Int) := by omega
          rw [List.take_length] at HO HFB ho ⊢
          obtain ⟨AO, cO, rfl⟩ := ho.rp.form
          have HJW2 := Lib.hid HJW.out
          generalize ls.flatten = fl at *
          generalize Rec.allP ls = wt at *
          have HS3 := Lib.hid (HS2.out.ext HE.out)
          have HJ3 := Lib.hid (HJ2.out.ext HE.out)
          have HI3 := Lib.hid (HI2.out.ext HE.out)
          have HX3 := Lib.hid (HX2.out.trans HE.out)
          clear ho hext hk hlt HJW HS2 HJ2 HI2 HX2
          by_cases hwt : wt = 0
          · by_cases hbig : 4096 < fl.length
            · have hje := HJW2.out
              rw [if_pos ⟨hwt, hbig⟩] at hje
              subst hje hwt
              have f5 : (4096 : Int) < (fl.length : Int) := by omega
              have hz8 : (when0 31 (Rec.srt fl)).length = 0 := by rw [when0_no (by decide)]; rfl
              generalize (when0 31 (Rec.srt fl)).length = z8 at *
              subst hz8
              clear hbig HJW2
              go_wp2_with fail
              refine (lives_any _).mono ?_
              rintro e wz ⟨rfl, hez⟩
              have HSZ := Lib.hid (HS3.out.ext hez)
              have HIZ := Lib.hid (HI3.out.ext hez)
              have HXZ := Lib.hid (HX3.out.trans hez)
              clear hez HS3 HJ3 HI3 HX3
              go_wp2_with fail
              refine (HRL.out _ HIZ.out.l).mono ?_
              rintro e wy ⟨rfl, hey⟩
              have HIY := Lib.hid (HIZ.out.ext hey)
              have HSY := Lib.hid (HSZ.out.ext hey)
              have HXY := Lib.hid (HXZ.out.trans hey)
              clear hey HIZ HSZ HXZ
              obtain ⟨c0, c1⟩ := HIY.out.m
              go_wp2_with fail
              refine (HRC.out _).mono ?_
              rintro e wx ⟨rfl, hex⟩
              have HIX := Lib.hid (HIY.out.ext hex)
              have HSX := Lib.hid (HSY.out.ext hex)
              have HXX := Lib.hid (HXY.out.trans hex)
              clear hex HIY HSY HXY c0 c1
              cases ok with
              | false =>
                have hse := HSE.out
                rw [if_neg (by simp)] at hse
                subst hse
                have hz9 : (when0 40 (Rt.stamp l (m1, m2))).length = 0 := by rw [when0_no (by decide)]; rfl
                generalize (when0 40 (Rt.stamp l (m1, m2))).length = z9 at *
                subst hz9
                go_wp2
                go_ret
                exact ⟨rfl, HXX.out⟩
              | true =>
                have hse := HSE.out
                rw [if_pos rfl] at hse
                subst hse
                by_cases hs0 : se = 0
                · subst hs0
                  rw [when0_ok rfl] at HSX ⊢
                  go_wp2
                  go_loopw [17, 18] (fun o iv wr => ∃ k : Nat, k ≤ l.length ∧ iv = .int .i64 (k : Int) ∧ OE 44 wx.heap.size wr o (Rt.stamp (l.take k) (m1, m2)) ∧ Ext wx wr) (fun _ iv _ => l.length - (intOf iv).toNat)
                  case atStart => exact ⟨0, Nat.zero_le _, rfl, OE.nilS _ _ _, Ext.refl _⟩
                  case round =>
                    obtain ⟨k, hk, rfl, ho, hext⟩ := hrel
                    rename World => wr
                    have HE := Lib.hid hext
                    have HO := Lib.hid ho
                    obtain ⟨AO, cO, rfl⟩ := ho.re.form
                    have HOUT := Lib.hid (show (Rt.stamp (l.take k) (m1, m2)).length ≤ 1000000 by unfold Rt.stamp; rw [List.length_map, List.length_take]; have := HQ.out.b; omega)
                    clear ho
                    by_cases hlt : k < l.length
                    · have g1 : (k : Int) < (l.length : Int) := by omega
                      have g1n : k < l.length := hlt
                      have g0 : 0 ≤ (k : Int) := by omega
                      have HLT := Lib.hid hlt
                      have hkb : k ≤ 1000000 := by have := HQ.out.b; omega
                      obtain ⟨bA, oA, rfl, xa, xb⟩ := (HIX.out.l.ext hext).at_ (k := k) hlt
                      have HSN := Lib.hid (Rt.stamp_s l (m1, m2) hlt)
                      obtain ⟨c0, c1⟩ := HIX.out.m.ext hext
                      generalize Rt.stamp (l.take k) (m1, m2) = out at *
                      generalize l[k] = x at *
                      obtain ⟨x1, x2⟩ := x
                      dsimp only at *
                      clear hext hk hlt
                      go_wp2
                      refine wp_region_tailY 8 [] [] Ext Ext (fun _ => True) (by kernel_rfl) (by kernel_rfl) (by kernel_rfl) (by kernel_rfl) (by kernel_rfl) (by kernel_rfl) (by kernel_rfl) (by rfl) (by rfl) (by kernel_rfl) (by kernel_rfl) (by kernel_rfl) (fun _ _ _ x y => x.trans y) Ext.refl (fun _ _ x => x) (Ext.refl _).drew (fun _ _ x _ => x) trivial ?_
                      repeat (first | (refine wpY_move0 rfl rfl (by first | exact runs0 | exact runs1 rfl) Ext.refl rfl rfl rfl ?_; apply Exists.intro; refine ⟨?_, ?_⟩; · (go_simp; rfl)) | (refine wpY_move rfl rfl (by first | exact runs0 | exact runs1 rfl) Ext.refl rfl rfl rfl (fun _ _ _ h _ => h) ?_) | (refine wpY_val rfl rfl (by first | exact runs0 | exact runs1 rfl) Ext.refl rfl ?_; apply Exists.intro; refine ⟨?_, ?_⟩; · (intro a w' hR; intro h1; (first | (have e1 : _ = _ := h1) | skip); intro h2; (first | (have e2 : _ = _ := h2) | skip); go_simp; rfl)) | (refine wpY_val rfl rfl (by first | exact runs0 | exact runs1 rfl) Ext.refl rfl ?_; apply Exists.intro; refine ⟨?_, ?_⟩; · (intro a w' hR; intro h1; (first | (have e1 : _ = _ := h1) | skip); go_simp; rfl)) | (refine wpY_val rfl rfl (by first | exact runs0 | exact runs1 rfl) Ext.refl rfl ?_; apply Exists.intro; refine ⟨?_, ?_⟩; · (intro a w' hR; go_simp; rfl)) | (refine wpY_val rfl rfl (by first | exact runs0 | exact runs1 rfl) Ext.refl rfl ?_; apply Exists.intro; refine ⟨?_, ?_⟩; · (intro a w' hR; intro h1; (first | (have e1 : _ = _ := h1) | skip); intro h2; (first | (have e2 : _ = _ := h2) | skip); intro h3; (first | (have e3 : _ = _ := h3) | skip); go_simp; rfl)) | (refine wpY_skip rfl rfl (by first | exact .inl rfl | exact .inr rfl) ?_))
                      refine wpY_val rfl rfl (by first | exact runs0 | exact runs1 rfl) Ext.refl rfl ?_; apply Exists.intro; refine ⟨?_, ?_⟩
                      · intro a w' hR h1
                        have e1 : _ = _ := h1
                        have hl0 := hR.cell c0
                        have hl1 := hR.cell c1
                        go_simp
                        rfl
                      repeat (first | (refine wpY_move0 rfl rfl (by first | exact runs0 | exact runs1 rfl) Ext.refl rfl rfl rfl ?_; apply Exists.intro; refine ⟨?_, ?_⟩; · (go_simp; rfl)) | (refine wpY_move rfl rfl (by first | exact runs0 | exact runs1 rfl) Ext.refl rfl rfl rfl (fun _ _ _ h _ => h) ?_) | (refine wpY_val rfl rfl (by first | exact runs0 | exact runs1 rfl) Ext.refl rfl ?_; apply Exists.intro; refine ⟨?_, ?_⟩; · (intro a w' hR; intro h1; (first | (have e1 : _ = _ := h1) | skip); intro h2; (first | (have e2 : _ = _ := h2) | skip); go_simp; rfl)) | (refine wpY_val rfl rfl (by first | exact runs0 | exact runs1 rfl) Ext.refl rfl ?_; apply Exists.intro; refine ⟨?_, ?_⟩; · (intro a w' hR; intro h1; (first | (have e1 : _ = _ := h1) | skip); go_simp; rfl)) | (refine wpY_val rfl rfl (by first | exact runs0 | exact runs1 rfl) Ext.refl rfl ?_; apply Exists.intro; refine ⟨?_, ?_⟩; · (intro a w' hR; go_simp; rfl)) | (refine wpY_val rfl rfl (by first | exact runs0 | exact runs1 rfl) Ext.refl rfl ?_; apply Exists.intro; refine ⟨?_, ?_⟩; · (intro a w' hR; intro h1; (first | (have e1 : _ = _ := h1) | skip); intro h2; (first | (have e2 : _ = _ := h2) | skip); intro h3; (first | (have e3 : _ = _ := h3) | skip); go_simp; rfl)) | (refine wpY_skip rfl rfl (by first | exact .inl rfl | exact .inr rfl) ?_))
                      refine wpY_val rfl rfl (by first | exact runs0 | exact runs1 rfl) Ext.refl rfl ?_; apply Exists.intro; refine ⟨?_, ?_⟩
                      · intro a w' hR h1
                        have e1 : _ = _ := h1
                        have hl0 := hR.cell xa
                        have hl1 := hR.cell xb
                        go_simp
                        rfl
                      refine wpY_val rfl rfl (by first | exact runs0 | exact runs1 rfl) Ext.refl rfl ?_; apply Exists.intro; refine ⟨?_, ?_⟩
                      · intro a w' hR h1 h2
                        have e1 : _ = _ := h1
                        have e2 : _ = _ := h2
                        have q1 := e1; rw [Array.getD_eq_getD_getElem?] at q1
                        have q2 := e2; rw [Array.getD_eq_getD_getElem?] at q2
                        go_simp
                        rfl
                      refine wpY_call (fun v w2 => RE w2 v [(((m1, m2), (x1, x2)) : Ent.E)]) rfl rfl (by first | exact runs0 | exact runs1 rfl) rfl (by first | exact mono_eq | exact (fun _ _ _ h k => Rd.ext h k) | exact (fun _ _ _ h k => RB.ext h k) | exact (fun _ _ _ h k => OB.ext h k) | exact (fun _ _ _ h k => RB.extS h k) | exact (fun _ _ _ h k => Rd.ext h (GrownW.ext k)) | exact (fun _ _ _ h k => RP.ext h k) | exact (fun _ _ _ h k => OP.ext h k) | exact (fun _ _ _ h k => Rd.extV h k) | exact (fun _ _ _ h k => RB.extV h k) | exact (fun _ _ _ h k => E0.ext h k) | exact (fun _ _ _ h k => O0.ext h k) | exact (fun _ _ _ h k => RE.ext h k) | exact (fun _ _ _ h k => RE.extD h k) | exact (fun _ _ _ h _ => h) | exact (fun _ _ _ ⟨n, h1, h2⟩ k => ⟨n, h1, k.st _ _ h2⟩)) ?_ ?_
                      · intro a w' hR h1 K hK
                        have e1 : _ = _ := h1
                        have q1 : a.tmps[152]?.getD undef = .agg #[.int .i64 m1, .int .i64 m2, .int .i64 x1, .int .i64 x2] := by simpa using e1
                        go_simp
                        exact hK _ _ ((Ext.refl _).alloc _) (RE.lit _ #[.int .i64 m1, .int .i64 m2, .int .i64 x1, .int .i64 x2] 44 1 [(((m1, m2), (x1, x2)) : Ent.E)] rfl (by omega) rfl)
                      refine wpY_done ?_
                      intro w5 hx5 hS
                      iterate 7 (rintro _ rfl)
                      rintro v153 h153
                      dsimp only [FinV]
                      go_simp
                      have hx5 : Ext wr w5 := hx5
                      have HO5 := Lib.hid (HO.out.ext hx5)
                      have HX5 := Lib.hid (HE.out.trans hx5)
                      have HLIT := Lib.hid (show RE w5 v153 [(((m1, m2), (x1, x2)) : Ent.E)] from h153)
                      clear hx5 hS h153
                      simp only [thenTail, List.drop_succ_cons, List.drop_zero]
                      go_wp2_with (refine wpList_appE rfl elemE w5 (.tmp 146) (.tmp 153) rfl wx.heap.size _ _ out [(((m1, m2), (x1, x2)) : Ent.E)] rfl HO5.out rfl HLIT.out (by have := HOUT.out; simp; omega) (by have := HOUT.out; unfold maxLen; simp; omega) HX5.out.size ?_; intro v7 w7 ho7 hg7 hat7)
                      exact ⟨⟨k + 1, HLT.out, by go_num, by rw [HSN.out]; exact ho7, HX5.out.grown hat7 fun g hg => (HO5.out.own.lt g hg).1⟩, by have := HLT.out; simp [intOf]; omega⟩
                    · have hk2 : k = l.length := by omega
                      subst hk2
                      have g1 : ¬ (l.length : Int) < (l.length : Int) := by omega
                      rw [List.take_length] at HO HOUT ⊢
                      generalize hq : Rt.stamp l (m1, m2) = out at *
                      clear hext hq
                      have HSM := Lib.hid (fun w h k => sameE_is (.slice AS out.length cS) (.slice AO out.length cO) out w h k)
                      go_wp2_with fail
                      refine (HSM.out _ (HSX.out.ext HE.out) HO.out.re).mono ?_
                      rintro e w9 ⟨rfl, he9⟩
                      go_wp2
                      go_ret
                      exact ⟨rfl, (HXX.out.trans HE.out).trans he9⟩
                · have hn9 : (se != 0) = true := by simpa using hs0
                  have hz9 : (when0 se (Rt.stamp l (m1, m2))).length = 0 := by rw [when0_no hs0]; rfl
                  generalize (when0 se (Rt.stamp l (m1, m2))).length = z9 at *
                  subst hz9
                  clear hs0
                  go_wp2
                  go_ret
                  exact ⟨rfl, HXX.out⟩
            · have hje := HJW2.out
              rw [if_neg (fun q => hbig q.2)] at hje
              subst hje hwt
              have f5 : ¬ (4096 : Int) < (fl.length : Int) := by omega
              rw [when0_ok rfl] at HJ3 ⊢
              have HRS := Lib.hid (fun w h => rsort_any fl (.slice AO fl.length cO) w h (by have := HFB.out; omega))
              clear hbig HJW2
              go_wp2_with fail
              refine (lives_any _).mono ?_
              rintro e w4 ⟨rfl, he4⟩
              have HO4 := Lib.hid (HO.out.rp.ext he4)
              have HS4 := Lib.hid (HS3.out.ext he4)
              have HJ4 := Lib.hid (HJ3.out.ext he4)
              have HI4 := Lib.hid (HI3.out.ext he4)
              have HX4 := Lib.hid (HX3.out.trans he4)
              clear he4 HS3 HJ3 HI3 HX3
              go_wp2_with fail
              refine (HRS.out _ HO4.out).mono ?_
              rintro e w5 ⟨t, rfl, ht5, he5⟩
              have HT5 := Lib.hid ht5.rp
              have HS5 := Lib.hid (HS4.out.ext he5)
              have HJ5 := Lib.hid (HJ4.out.ext he5)
              have HI5 := Lib.hid (HI4.out.ext he5)
              have HX5 := Lib.hid (HX4.out.trans he5)
              clear he5 ht5 HS4 HJ4 HI4 HX4
              go_wp2_with fail
              refine (live_exact _ _ _ _ true _ (by simp) HJ5.out HT5.out).mono ?_
              rintro e wz ⟨rfl, hez⟩
              have HSZ := Lib.hid (HS5.out.ext hez)
              have HIZ := Lib.hid (HI5.out.ext hez)
              have HXZ := Lib.hid (HX5.out.trans hez)
              clear hez HS5 HJ5 HI5 HX5 HT5
              go_wp2_with fail
              refine (HRL.out _ HIZ.out.l).mono ?_
              rintro e wy ⟨rfl, hey⟩
              have HIY := Lib.hid (HIZ.out.ext hey)
              have HSY := Lib.hid (HSZ.out.ext hey)
              have HXY := Lib.hid (HXZ.out.trans hey)
              clear hey HIZ HSZ HXZ
              obtain ⟨c0, c1⟩ := HIY.out.m
              go_wp2_with fail
              refine (HRC.out _).mono ?_
              rintro e wx ⟨rfl, hex⟩
              have HIX := Lib.hid (HIY.out.ext hex)
              have HSX := Lib.hid (HSY.out.ext hex)
              have HXX := Lib.hid (HXY.out.trans hex)
              clear hex HIY HSY HXY c0 c1
              cases ok with
              | false =>
                have hse := HSE.out
                rw [if_neg (by simp)] at hse
                subst hse
                have hz9 : (when0 40 (Rt.stamp l (m1, m2))).length = 0 := by rw [when0_no (by decide)]; rfl
                generalize (when0 40 (Rt.stamp l (m1, m2))).length = z9 at *
                subst hz9
                go_wp2
                go_ret
                exact ⟨rfl, HXX.out⟩
              | true =>
                have hse := HSE.out
                rw [if_pos rfl] at hse
                subst hse
                by_cases hs0 : se = 0
                · subst hs0
                  rw [when0_ok rfl] at HSX ⊢
                  go_wp2
                  go_loopw [17, 18] (fun o iv wr => ∃ k : Nat, k ≤ l.length ∧ iv = .int .i64 (k : Int) ∧ OE 44 wx.heap.size wr o (Rt.stamp (l.take k) (m1, m2)) ∧ Ext wx wr) (fun _ iv _ => l.length - (intOf iv).toNat)
                  case atStart => exact ⟨0, Nat.zero_le _, rfl, OE.nilS _ _ _, Ext.refl _⟩
                  case round =>
                    obtain ⟨k, hk, rfl, ho, hext⟩ := hrel
                    rename World => wr
                    have HE := Lib.hid hext
                    have HO := Lib.hid ho
                    obtain ⟨AO, cO, rfl⟩ := ho.re.form
                    have HOUT := Lib.hid (show (Rt.stamp (l.take k) (m1, m2)).length ≤ 1000000 by unfold Rt.stamp; rw [List.length_map, List.length_take]; have := HQ.out.b; omega)
                    clear ho
                    by_cases hlt : k < l.length
                    · have g1 : (k : Int) < (l.length : Int) := by omega
                      have g1n : k < l.length := hlt
                      have g0 : 0 ≤ (k : Int) := by omega
                      have HLT := Lib.hid hlt
                      have hkb : k ≤ 1000000 := by have := HQ.out.b; omega
                      obtain ⟨bA, oA, rfl, xa, xb⟩ := (HIX.out.l.ext hext).at_ (k := k) hlt
                      have HSN := Lib.hid (Rt.stamp_s l (m1, m2) hlt)
                      obtain ⟨c0, c1⟩ := HIX.out.m.ext hext
                      generalize Rt.stamp (l.take k) (m1, m2) = out at *
                      generalize l[k] = x at *
                      obtain ⟨x1, x2⟩ := x
                      dsimp only at *
                      clear hext hk hlt
                      go_wp2
                      refine wp_region_tailY 8 [] [] Ext Ext (fun _ => True) (by kernel_rfl) (by kernel_rfl) (by kernel_rfl) (by kernel_rfl) (by kernel_rfl) (by kernel_rfl) (by kernel_rfl) (by rfl) (by rfl) (by kernel_rfl) (by kernel_rfl) (by kernel_rfl) (fun _ _ _ x y => x.trans y) Ext.refl (fun _ _ x => x) (Ext.refl _).drew (fun _ _ x _ => x) trivial ?_
                      repeat (first | (refine wpY_move0 rfl rfl (by first | exact runs0 | exact runs1 rfl) Ext.refl rfl rfl rfl ?_; apply Exists.intro; refine ⟨?_, ?_⟩; · (go_simp; rfl)) | (refine wpY_move rfl rfl (by first | exact runs0 | exact runs1 rfl) Ext.refl rfl rfl rfl (fun _ _ _ h _ => h) ?_) | (refine wpY_val rfl rfl (by first | exact runs0 | exact runs1 rfl) Ext.refl rfl ?_; apply Exists.intro; refine ⟨?_, ?_⟩; · (intro a w' hR; intro h1; (first | (have e1 : _ = _ := h1) | skip); intro h2; (first | (have e2 : _ = _ := h2) | skip); go_simp; rfl)) | (refine wpY_val rfl rfl (by first | exact runs0 | exact runs1 rfl) Ext.refl rfl ?_; apply Exists.intro; refine ⟨?_, ?_⟩; · (intro a w' hR; intro h1; (first | (have e1 : _ = _ := h1) | skip); go_simp; rfl)) | (refine wpY_val rfl rfl (by first | exact runs0 | exact runs1 rfl) Ext.refl rfl ?_; apply Exists.intro; refine ⟨?_, ?_⟩; · (intro a w' hR; go_simp; rfl)) | (refine wpY_val rfl rfl (by first | exact runs0 | exact runs1 rfl) Ext.refl rfl ?_; apply Exists.intro; refine ⟨?_, ?_⟩; · (intro a w' hR; intro h1; (first | (have e1 : _ = _ := h1) | skip); intro h2; (first | (have e2 : _ = _ := h2) | skip); intro h3; (first | (have e3 : _ = _ := h3) | skip); go_simp; rfl)) | (refine wpY_skip rfl rfl (by first | exact .inl rfl | exact .inr rfl) ?_))
                      refine wpY_val rfl rfl (by first | exact runs0 | exact runs1 rfl) Ext.refl rfl ?_; apply Exists.intro; refine ⟨?_, ?_⟩
                      · intro a w' hR h1
                        have e1 : _ = _ := h1
                        have hl0 := hR.cell c0
                        have hl1 := hR.cell c1
                        go_simp
                        rfl
                      repeat (first | (refine wpY_move0 rfl rfl (by first | exact runs0 | exact runs1 rfl) Ext.refl rfl rfl rfl ?_; apply Exists.intro; refine ⟨?_, ?_⟩; · (go_simp; rfl)) | (refine wpY_move rfl rfl (by first | exact runs0 | exact runs1 rfl) Ext.refl rfl rfl rfl (fun _ _ _ h _ => h) ?_) | (refine wpY_val rfl rfl (by first | exact runs0 | exact runs1 rfl) Ext.refl rfl ?_; apply Exists.intro; refine ⟨?_, ?_⟩; · (intro a w' hR; intro h1; (first | (have e1 : _ = _ := h1) | skip); intro h2; (first | (have e2 : _ = _ := h2) | skip); go_simp; rfl)) | (refine wpY_val rfl rfl (by first | exact runs0 | exact runs1 rfl) Ext.refl rfl ?_; apply Exists.intro; refine ⟨?_, ?_⟩; · (intro a w' hR; intro h1; (first | (have e1 : _ = _ := h1) | skip); go_simp; rfl)) | (refine wpY_val rfl rfl (by first | exact runs0 | exact runs1 rfl) Ext.refl rfl ?_; apply Exists.intro; refine ⟨?_, ?_⟩; · (intro a w' hR; go_simp; rfl)) | (refine wpY_val rfl rfl (by first | exact runs0 | exact runs1 rfl) Ext.refl rfl ?_; apply Exists.intro; refine ⟨?_, ?_⟩; · (intro a w' hR; intro h1; (first | (have e1 : _ = _ := h1) | skip); intro h2; (first | (have e2 : _ = _ := h2) | skip); intro h3; (first | (have e3 : _ = _ := h3) | skip); go_simp; rfl)) | (refine wpY_skip rfl rfl (by first | exact .inl rfl | exact .inr rfl) ?_))
                      refine wpY_val rfl rfl (by first | exact runs0 | exact runs1 rfl) Ext.refl rfl ?_; apply Exists.intro; refine ⟨?_, ?_⟩
                      · intro a w' hR h1
                        have e1 : _ = _ := h1
                        have hl0 := hR.cell xa
                        have hl1 := hR.cell xb
                        go_simp
                        rfl
                      refine wpY_val rfl rfl (by first | exact runs0 | exact runs1 rfl) Ext.refl rfl ?_; apply Exists.intro; refine ⟨?_, ?_⟩
                      · intro a w' hR h1 h2
                        have e1 : _ = _ := h1
                        have e2 : _ = _ := h2
                        have q1 := e1; rw [Array.getD_eq_getD_getElem?] at q1
                        have q2 := e2; rw [Array.getD_eq_getD_getElem?] at q2
                        go_simp
                        rfl
                      refine wpY_call (fun v w2 => RE w2 v [(((m1, m2), (x1, x2)) : Ent.E)]) rfl rfl (by first | exact runs0 | exact runs1 rfl) rfl (by first | exact mono_eq | exact (fun _ _ _ h k => Rd.ext h k) | exact (fun _ _ _ h k => RB.ext h k) | exact (fun _ _ _ h k => OB.ext h k) | exact (fun _ _ _ h k => RB.extS h k) | exact (fun _ _ _ h k => Rd.ext h (GrownW.ext k)) | exact (fun _ _ _ h k => RP.ext h k) | exact (fun _ _ _ h k => OP.ext h k) | exact (fun _ _ _ h k => Rd.extV h k) | exact (fun _ _ _ h k => RB.extV h k) | exact (fun _ _ _ h k => E0.ext h k) | exact (fun _ _ _ h k => O0.ext h k) | exact (fun _ _ _ h k => RE.ext h k) | exact (fun _ _ _ h k => RE.extD h k) | exact (fun _ _ _ h _ => h) | exact (fun _ _ _ ⟨n, h1, h2⟩ k => ⟨n, h1, k.st _ _ h2⟩)) ?_ ?_
                      · intro a w' hR h1 K hK
                        have e1 : _ = _ := h1
                        have q1 : a.tmps[152]?.getD undef = .agg #[.int .i64 m1, .int .i64 m2, .int .i64 x1, .int .i64 x2] := by simpa using e1
                        go_simp
                        exact hK _ _ ((Ext.refl _).alloc _) (RE.lit _ #[.int .i64 m1, .int .i64 m2, .int .i64 x1, .int .i64 x2] 44 1 [(((m1, m2), (x1, x2)) : Ent.E)] rfl (by omega) rfl)
                      refine wpY_done ?_
                      intro w5 hx5 hS
                      iterate 7 (rintro _ rfl)
                      rintro v153 h153
                      dsimp only [FinV]
                      go_simp
                      have hx5 : Ext wr w5 := hx5
                      have HO5 := Lib.hid (HO.out.ext hx5)
                      have HX5 := Lib.hid (HE.out.trans hx5)
                      have HLIT := Lib.hid (show RE w5 v153 [(((m1, m2), (x1, x2)) : Ent.E)] from h153)
                      clear hx5 hS h153
                      simp only [thenTail, List.drop_succ_cons, List.drop_zero]
                      go_wp2_with (refine wpList_appE rfl elemE w5 (.tmp 146) (.tmp 153) rfl wx.heap.size _ _ out [(((m1, m2), (x1, x2)) : Ent.E)] rfl HO5.out rfl HLIT.out (by have := HOUT.out; simp; omega) (by have := HOUT.out; unfold maxLen; simp; omega) HX5.out.size ?_; intro v7 w7 ho7 hg7 hat7)
                      exact ⟨⟨k + 1, HLT.out, by go_num, by rw [HSN.out]; exact ho7, HX5.out.grown hat7 fun g hg => (HO5.out.own.lt g hg).1⟩, by have := HLT.out; simp [intOf]; omega⟩
                    · have hk2 : k = l.length := by omega
                      subst hk2
                      have g1 : ¬ (l.length : Int) < (l.length : Int) := by omega
                      rw [List.take_length] at HO HOUT ⊢
                      generalize hq : Rt.stamp l (m1, m2) = out at *
                      clear hext hq
                      have HSM := Lib.hid (fun w h k => sameE_is (.slice AS out.length cS) (.slice AO out.length cO) out w h k)
                      go_wp2_with fail
                      refine (HSM.out _ (HSX.out.ext HE.out) HO.out.re).mono ?_
                      rintro e w9 ⟨rfl, he9⟩
                      go_wp2
                      go_ret
                      exact ⟨rfl, (HXX.out.trans HE.out).trans he9⟩
                · have hn9 : (se != 0) = true := by simpa using hs0
                  have hz9 : (when0 se (Rt.stamp l (m1, m2))).length = 0 := by rw [when0_no hs0]; rfl
                  generalize (when0 se (Rt.stamp l (m1, m2))).length = z9 at *
                  subst hz9
                  clear hs0
                  go_wp2
                  go_ret
                  exact ⟨rfl, HXX.out⟩
          · have hje := HJW2.out
            rw [if_neg (fun q => hwt q.1)] at hje
            subst hje
            have n1 : (je == 0) = false := by simpa using hwt
            have n2 : (je != 0) = true := by simpa using hwt
            have hz8 : (when0 je (Rec.srt fl)).length = 0 := by rw [when0_no hwt]; rfl
            generalize (when0 je (Rec.srt fl)).length = z8 at *
            subst hz8
            clear hwt HJW2
            go_wp2_with fail
            refine (lives_any _).mono ?_
            rintro e wz ⟨rfl, hez⟩
            have HSZ := Lib.hid (HS3.out.ext hez)
            have HIZ := Lib.hid (HI3.out.ext hez)
            have HXZ := Lib.hid (HX3.out.trans hez)
            clear hez HS3 HJ3 HI3 HX3
            go_wp2_with fail
            refine (HRL.out _ HIZ.out.l).mono ?_
            rintro e wy ⟨rfl, hey⟩
            have HIY := Lib.hid (HIZ.out.ext hey)
            have HSY := Lib.hid (HSZ.out.ext hey)
            have HXY := Lib.hid (HXZ.out.trans hey)
            clear hey HIZ HSZ HXZ
            obtain ⟨c0, c1⟩ := HIY.out.m
            go_wp2_with fail
            refine (HRC.out _).mono ?_
            rintro e wx ⟨rfl, hex⟩
            have HIX := Lib.hid (HIY.out.ext hex)
            have HSX := Lib.hid (HSY.out.ext hex)
            have HXX := Lib.hid (HXY.out.trans hex)
            clear hex HIY HSY HXY c0 c1
            cases ok with
            | false =>
              have hse := HSE.out
              rw [if_neg (by simp)] at hse
              subst hse
              have hz9 : (when0 40 (Rt.stamp l (m1, m2))).length = 0 := by rw [when0_no (by decide)]; rfl
              generalize (when0 40 (Rt.stamp l (m1, m2))).length = z9 at *
              subst hz9
              go_wp2
              go_ret
              exact ⟨rfl, HXX.out⟩
            | true =>
              have hse := HSE.out
              rw [if_pos rfl] at hse
              subst hse
              by_cases hs0 : se = 0
              · subst hs0
                rw [when0_ok rfl] at HSX ⊢
                go_wp2
                go_loopw [17, 18] (fun o iv wr => ∃ k : Nat, k ≤ l.length ∧ iv = .int .i64 (k : Int) ∧ OE 44 wx.heap.size wr o (Rt.stamp (l.take k) (m1, m2)) ∧ Ext wx wr) (fun _ iv _ => l.length - (intOf iv).toNat)
                case atStart => exact ⟨0, Nat.zero_le _, rfl, OE.nilS _ _ _, Ext.refl _⟩
                case round =>
                  obtain ⟨k, hk, rfl, ho, hext⟩ := hrel
                  rename World => wr
                  have HE := Lib.hid hext
                  have HO := Lib.hid ho
                  obtain ⟨AO, cO, rfl⟩ := ho.re.form
                  have HOUT := Lib.hid (show (Rt.stamp (l.take k) (m1, m2)).length ≤ 1000000 by unfold Rt.stamp; rw [List.length_map, List.length_take]; have := HQ.out.b; omega)
                  clear ho
                  by_cases hlt : k < l.length
                  · have g1 : (k : Int) < (l.length : Int) := by omega
                    have g1n : k < l.length := hlt
                    have g0 : 0 ≤ (k : Int) := by omega
                    have HLT := Lib.hid hlt
                    have hkb : k ≤ 1000000 := by have := HQ.out.b; omega
                    obtain ⟨bA, oA, rfl, xa, xb⟩ := (HIX.out.l.ext hext).at_ (k := k) hlt
                    have HSN := Lib.hid (Rt.stamp_s l (m1, m2) hlt)
                    obtain ⟨c0, c1⟩ := HIX.out.m.ext hext
                    generalize Rt.stamp (l.take k) (m1, m2) = out at *
                    generalize l[k] = x at *
                    obtain ⟨x1, x2⟩ := x
                    dsimp only at *
                    clear hext hk hlt
                    go_wp2
                    refine wp_region_tailY 8 [] [] Ext Ext (fun _ => True) (by kernel_rfl) (by kernel_rfl) (by kernel_rfl) (by kernel_rfl) (by kernel_rfl) (by kernel_rfl) (by kernel_rfl) (by rfl) (by rfl) (by kernel_rfl) (by kernel_rfl) (by kernel_rfl) (fun _ _ _ x y => x.trans y) Ext.refl (fun _ _ x => x) (Ext.refl _).drew (fun _ _ x _ => x) trivial ?_
                    repeat (first | (refine wpY_move0 rfl rfl (by first | exact runs0 | exact runs1 rfl) Ext.refl rfl rfl rfl ?_; apply Exists.intro; refine ⟨?_, ?_⟩; · (go_simp; rfl)) | (refine wpY_move rfl rfl (by first | exact runs0 | exact runs1 rfl) Ext.refl rfl rfl rfl (fun _ _ _ h _ => h) ?_) | (refine wpY_val rfl rfl (by first | exact runs0 | exact runs1 rfl) Ext.refl rfl ?_; apply Exists.intro; refine ⟨?_, ?_⟩; · (intro a w' hR; intro h1; (first | (have e1 : _ = _ := h1) | skip); intro h2; (first | (have e2 : _ = _ := h2) | skip); go_simp; rfl)) | (refine wpY_val rfl rfl (by first | exact runs0 | exact runs1 rfl) Ext.refl rfl ?_; apply Exists.intro; refine ⟨?_, ?_⟩; · (intro a w' hR; intro h1; (first | (have e1 : _ = _ := h1) | skip); go_simp; rfl)) | (refine wpY_val rfl rfl (by first | exact runs0 | exact runs1 rfl) Ext.refl rfl ?_; apply Exists.intro; refine ⟨?_, ?_⟩; · (intro a w' hR; go_simp; rfl)) | (refine wpY_val rfl rfl (by first | exact runs0 | exact runs1 rfl) Ext.refl rfl ?_; apply Exists.intro; refine ⟨?_, ?_⟩; · (intro a w' hR; intro h1; (first | (have e1 : _ = _ := h1) | skip); intro h2; (first | (have e2 : _ = _ := h2) | skip); intro h3; (first | (have e3 : _ = _ := h3) | skip); go_simp; rfl)) | (refine wpY_skip rfl rfl (by first | exact .inl rfl | exact .inr rfl) ?_))
                    refine wpY_val rfl rfl (by first | exact runs0 | exact runs1 rfl) Ext.refl rfl ?_; apply Exists.intro; refine ⟨?_, ?_⟩
                    · intro a w' hR h1
                      have e1 : _ = _ := h1
                      have hl0 := hR.cell c0
                      have hl1 := hR.cell c1
                      go_simp
                      rfl
                    repeat (first | (refine wpY_move0 rfl rfl (by first | exact runs0 | exact runs1 rfl) Ext.refl rfl rfl rfl ?_; apply Exists.intro; refine ⟨?_, ?_⟩; · (go_simp; rfl)) | (refine wpY_move rfl rfl (by first | exact runs0 | exact runs1 rfl) Ext.refl rfl rfl rfl (fun _ _ _ h _ => h) ?_) | (refine wpY_val rfl rfl (by first | exact runs0 | exact runs1 rfl) Ext.refl rfl ?_; apply Exists.intro; refine ⟨?_, ?_⟩; · (intro a w' hR; intro h1; (first | (have e1 : _ = _ := h1) | skip); intro h2; (first | (have e2 : _ = _ := h2) | skip); go_simp; rfl)) | (refine wpY_val rfl rfl (by first | exact runs0 | exact runs1 rfl) Ext.refl rfl ?_; apply Exists.intro; refine ⟨?_, ?_⟩; · (intro a w' hR; intro h1; (first | (have e1 : _ = _ := h1) | skip); go_simp; rfl)) | (refine wpY_val rfl rfl (by first | exact runs0 | exact runs1 rfl) Ext.refl rfl ?_; apply Exists.intro; refine ⟨?_, ?_⟩; · (intro a w' hR; go_simp; rfl)) | (refine wpY_val rfl rfl (by first | exact runs0 | exact runs1 rfl) Ext.refl rfl ?_; apply Exists.intro; refine ⟨?_, ?_⟩; · (intro a w' hR; intro h1; (first | (have e1 : _ = _ := h1) | skip); intro h2; (first | (have e2 : _ = _ := h2) | skip); intro h3; (first | (have e3 : _ = _ := h3) | skip); go_simp; rfl)) | (refine wpY_skip rfl rfl (by first | exact .inl rfl | exact .inr rfl) ?_))
                    refine wpY_val rfl rfl (by first | exact runs0 | exact runs1 rfl) Ext.refl rfl ?_; apply Exists.intro; refine ⟨?_, ?_⟩
                    · intro a w' hR h1
                      have e1 : _ = _ := h1
                      have hl0 := hR.cell xa
                      have hl1 := hR.cell xb
                      go_simp
                      rfl
                    refine wpY_val rfl rfl (by first | exact runs0 | exact runs1 rfl) Ext.refl rfl ?_; apply Exists.intro; refine ⟨?_, ?_⟩
                    · intro a w' hR h1 h2
                      have e1 : _ = _ := h1
                      have e2 : _ = _ := h2
                      have q1 := e1; rw [Array.getD_eq_getD_getElem?] at q1
                      have q2 := e2; rw [Array.getD_eq_getD_getElem?] at q2
                      go_simp
                      rfl
                    refine wpY_call (fun v w2 => RE w2 v [(((m1, m2), (x1, x2)) : Ent.E)]) rfl rfl (by first | exact runs0 | exact runs1 rfl) rfl (by first | exact mono_eq | exact (fun _ _ _ h k => Rd.ext h k) | exact (fun _ _ _ h k => RB.ext h k) | exact (fun _ _ _ h k => OB.ext h k) | exact (fun _ _ _ h k => RB.extS h k) | exact (fun _ _ _ h k => Rd.ext h (GrownW.ext k)) | exact (fun _ _ _ h k => RP.ext h k) | exact (fun _ _ _ h k => OP.ext h k) | exact (fun _ _ _ h k => Rd.extV h k) | exact (fun _ _ _ h k => RB.extV h k) | exact (fun _ _ _ h k => E0.ext h k) | exact (fun _ _ _ h k => O0.ext h k) | exact (fun _ _ _ h k => RE.ext h k) | exact (fun _ _ _ h k => RE.extD h k) | exact (fun _ _ _ h _ => h) | exact (fun _ _ _ ⟨n, h1, h2⟩ k => ⟨n, h1, k.st _ _ h2⟩)) ?_ ?_
                    · intro a w' hR h1 K hK
                      have e1 : _ = _ := h1
                      have q1 : a.tmps[152]?.getD undef = .agg #[.int .i64 m1, .int .i64 m2, .int .i64 x1, .int .i64 x2] := by simpa using e1
                      go_simp
                      exact hK _ _ ((Ext.refl _).alloc _) (RE.lit _ #[.int .i64 m1, .int .i64 m2, .int .i64 x1, .int .i64 x2] 44 1 [(((m1, m2), (x1, x2)) : Ent.E)] rfl (by omega) rfl)
                    refine wpY_done ?_
                    intro w5 hx5 hS
                    iterate 7 (rintro _ rfl)
                    rintro v153 h153
                    dsimp only [FinV]
                    go_simp
                    have hx5 : Ext wr w5 := hx5
                    have HO5 := Lib.hid (HO.out.ext hx5)
                    have HX5 := Lib.hid (HE.out.trans hx5)
                    have HLIT := Lib.hid (show RE w5 v153 [(((m1, m2), (x1, x2)) : Ent.E)] from h153)
                    clear hx5 hS h153
                    simp only [thenTail, List.drop_succ_cons, List.drop_zero]
                    go_wp2_with (refine wpList_appE rfl elemE w5 (.tmp 146) (.tmp 153) rfl wx.heap.size _ _ out [(((m1, m2), (x1, x2)) : Ent.E)] rfl HO5.out rfl HLIT.out (by have := HOUT.out; simp; omega) (by have := HOUT.out; unfold maxLen; simp; omega) HX5.out.size ?_; intro v7 w7 ho7 hg7 hat7)
                    exact ⟨⟨k + 1, HLT.out, by go_num, by rw [HSN.out]; exact ho7, HX5.out.grown hat7 fun g hg => (HO5.out.own.lt g hg).1⟩, by have := HLT.out; simp [intOf]; omega⟩
                  · have hk2 : k = l.length := by omega
                    subst hk2
                    have g1 : ¬ (l.length : Int) < (l.length : Int) := by omega
                    rw [List.take_length] at HO HOUT ⊢
                    generalize hq : Rt.stamp l (m1, m2) = out at *
                    clear hext hq
                    have HSM := Lib.hid (fun w h k => sameE_is (.slice AS out.length cS) (.slice AO out.length cO) out w h k)
                    go_wp2_with fail
                    refine (HSM.out _ (HSX.out.ext HE.out) HO.out.re).mono ?_
                    rintro e w9 ⟨rfl, he9⟩
                    go_wp2
                    go_ret
                    exact ⟨rfl, (HXX.out.trans HE.out).trans he9⟩
              · have hn9 : (se != 0) = true := by simpa using hs0
                have hz9 : (when0 se (Rt.stamp l (m1, m2))).length = 0 := by rw [when0_no hs0]; rfl
                generalize (when0 se (Rt.stamp l (m1, m2))).length = z9 at *
                subst hz9
                clear hs0
                go_wp2
                go_ret
                exact ⟨rfl, HXX.out⟩
theorem routeParts_row (w : World) (v : Value) (ls : List (List Rec.R)) (hv : RRS w v ls) (u : Value) (l : List Rec.R) (hu : RP w u l) (x : Value) (m : Int × Int) (hx : x = mV m) :
    Calls Try.prog 4 #[v, u, x] w fun e w' => e = .returned (.bool true) ∧ Ext w w' := by
  subst hx; exact routeParts_any v u ls l m w hv hu
end Go.Proofs.Ytjgcalgjfhjejaa
