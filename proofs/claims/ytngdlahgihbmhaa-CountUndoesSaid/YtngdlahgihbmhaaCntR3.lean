/-
  The walk of the document's answer on counts: an addition.
-/
import Derived.Test.YtngdlahgihbmhaaCntR2
namespace Go.Proofs.Ytngdlahgihbmhaa
open Go.RowKit Go.Ox Go.Shelf
set_option linter.unusedVariables false
set_option linter.unusedSimpArgs false
attribute [local irreducible] OP RP

theorem blk_grown {w w' : World} {b T : Nat} {cs : Array Value} {row : Option Nat} (h : Blk w b T cs) (hg : w.grownBy w' row) (hne : ∀ k, row = some k → k ≠ b) : Blk w' b T cs := by
  refine (hg.block b h.lt fun q => ?_).trans h
  exact hne b q.symm rfl
theorem store_XM {w : World} {g n c base : Nat} {A : Option Addr} {v : Value} {M : List Cnt.S} (hb : Blk w g 27 #[.slice A n c]) (ho : OE 34 base w v M) (hgb : g < base) (hg : Cnt.Good M) :
    XM (w.setCell ⟨g, 0, none⟩ v) g M ∧ ExtG g w (w.setCell ⟨g, 0, none⟩ v) := by
  have hx : ExtG g w (w.setCell ⟨g, 0, none⟩ v) := ExtG.store hb (i := 0) (by intro k z; simp) v
  have ho2 := ho.grown hx.grown fun k hk q => by
    injection q with q
    subst q
    have := (ho.own.lt _ hk).1
    omega
  exact ⟨⟨⟨v, hb.set_ 0 v, ho2.re⟩, hg⟩, hx⟩
theorem rstep_take (s : Cnt.S) (L : List Cnt.S) (j : Nat) (h : j < L.length) (st : List Cnt.S × Bool) : (L.take (j + 1)).foldl (Cnt.rstep s) st = Cnt.rstep s ((L.take j).foldl (Cnt.rstep s) st) L[j] := by
  rw [List.take_succ_eq_append_getElem h, List.foldl_append]; rfl
theorem rstep_len (s : Cnt.S) : ∀ (l : List Cnt.S) (st : List Cnt.S × Bool), (l.foldl (Cnt.rstep s) st).1.length ≤ st.1.length + 2 * l.length
  | [], st => by simp
  | x :: l, st => by
    have := rstep_len s l (Cnt.rstep s st x)
    have h2 : (Cnt.rstep s st x).1.length ≤ st.1.length + 2 := by
      unfold Cnt.rstep
      split
      · omega
      · split <;> simp
    rw [List.foldl_cons, List.length_cons]; omega
theorem rstep_eq {s : Cnt.S} {st : List Cnt.S × Bool} {x : Cnt.S} (h : x.1 = s.1) : Cnt.rstep s st x = st := by unfold Cnt.rstep; rw [if_pos h]
theorem rstep_both {s : Cnt.S} {o : List Cnt.S} {x : Cnt.S} (h : x.1 ≠ s.1) (hb : Cnt.klt s.1 x.1) : Cnt.rstep s (o, false) x = (o ++ [s] ++ [x], true) := by unfold Cnt.rstep; rw [if_neg h, if_pos ⟨rfl, hb⟩]
theorem rstep_one {s : Cnt.S} {o : List Cnt.S} {p : Bool} {x : Cnt.S} (h : x.1 ≠ s.1) (hb : p = true ∨ ¬ Cnt.klt s.1 x.1) : Cnt.rstep s (o, p) x = (o ++ [x], p) := by
  unfold Cnt.rstep
  rw [if_neg h, if_neg]
  rintro ⟨h1, h2⟩
  rcases hb with hb | hb
  · rw [hb] at h1; cases h1
  · exact hb h2

set_option maxRecDepth 100000 in
set_option maxHeartbeats 1000000 in
theorem radd_bad (w : World) (g : Nat) (L : List Cnt.S) (h : XM w g L) (k : Cnt.K) (n : Int) (hk : Mom.ok k.2 = false) :
    Calls Try.prog 11 #[.pointer (some ⟨g, 0, none⟩), pV2 k.1, pV2 k.2, .int .i64 n] w fun e w' => e = .returned (.int .i64 40) ∧ Ext w w' := by
  obtain ⟨⟨k1, k2⟩, k3, k4⟩ := k
  dsimp only at *
  obtain ⟨c1, c2, c3, c4⟩ := boxP w (.int .i64 k1) (.int .i64 k2) (.int .i64 k3) (.int .i64 k4)
  have HX := Lib.hid (show Ext w ((w.alloc (.cells #[.int .i64 k1, .int .i64 k2] 30)).alloc (.cells #[.int .i64 k3, .int .i64 k4] 32)) from ((Ext.refl _).alloc _).alloc _)
  have HK := Lib.hid (fun w => rcheck_any (k3, k4) w)
  rw [hk] at HK
  clear h hk
  go_enter Try.func11, Try.ntmps11
  go_wp2_with fail
  refine (HK.out _).mono ?_
  rintro e w2 ⟨rfl, he2⟩
  go_wp2
  go_ret
  exact ⟨rfl, HX.out.trans he2⟩
set_option maxRecDepth 100000 in
set_option maxHeartbeats 8000000 in
theorem radd_err (w : World) (g : Nat) (L : List Cnt.S) (h : XM w g L) (hl : L.length ≤ 100000) (k : Cnt.K) (n : Int) (hk : Mom.ok k.2 = true) (hr : n < - Cnt.was L k ∨ 1073741824 - Cnt.was L k < n) :
    Calls Try.prog 11 #[.pointer (some ⟨g, 0, none⟩), pV2 k.1, pV2 k.2, .int .i64 n] w fun e w' => e = .returned (.int .i64 210) ∧ Ext w w' := by
  obtain ⟨⟨k1, k2⟩, k3, k4⟩ := k
  dsimp only at *
  obtain ⟨c1, c2, c3, c4⟩ := boxP w (.int .i64 k1) (.int .i64 k2) (.int .i64 k3) (.int .i64 k4)
  have HX := Lib.hid (show Ext w ((w.alloc (.cells #[.int .i64 k1, .int .i64 k2] 30)).alloc (.cells #[.int .i64 k3, .int .i64 k4] 32)) from ((Ext.refl _).alloc _).alloc _)
  have HK := Lib.hid (fun w => rcheck_any (k3, k4) w)
  have HM := Lib.hid (h.ext HX.out)
  have HF := Lib.hid (fun (w : World) (h : XM w g L) => rof_any w g L h (by omega) ((k1, k2), k3, k4))
  have hgl := h.row.elim fun _ q => q.1.lt
  obtain ⟨z0, z1⟩ := Cnt.was_bounds h.good ((k1, k2), k3, k4)
  rw [hk] at HK
  clear hk
  generalize hz : Cnt.was L ((k1, k2), k3, k4) = z at *
  have hgd := h.good
  clear h
  go_enter Try.func11, Try.ntmps11
  go_wp2_with fail
  refine (HK.out _).mono ?_
  rintro e w1 ⟨rfl, he1⟩
  have c1 := he1.cell c1
  have c2 := he1.cell c2
  have c3 := he1.cell c3
  have c4 := he1.cell c4
  have HX1 := Lib.hid (HX.out.trans he1)
  have HM1 := Lib.hid (HM.out.ext he1)
  clear he1 HX HM
  go_wp2_with fail
  refine (HF.out _ HM1.out).mono ?_
  rintro e w2 ⟨rfl, he2⟩
  have c1 := he2.cell c1
  have c2 := he2.cell c2
  have c3 := he2.cell c3
  have c4 := he2.cell c4
  have HX2 := Lib.hid (HX1.out.trans he2)
  have HM2 := Lib.hid (HM1.out.ext he2)
  clear he2 HX1 HM1
  rcases hr with hr | hr
  · go_wp2
    go_ret
    exact ⟨rfl, HX2.out⟩
  · have hr2 : ¬ n < -z := by omega
    go_wp2
    go_ret
    exact ⟨rfl, HX2.out⟩
set_option maxRecDepth 100000 in
set_option maxHeartbeats 8000000 in
theorem radd_ok (w : World) (g : Nat) (L : List Cnt.S) (h : XM w g L) (hl : L.length ≤ 100000) (k : Cnt.K) (n : Int) (hk : Mom.ok k.2 = true) (hr : - Cnt.was L k ≤ n) (hr2 : n ≤ 1073741824 - Cnt.was L k) :
    Calls Try.prog 11 #[.pointer (some ⟨g, 0, none⟩), pV2 k.1, pV2 k.2, .int .i64 n] w fun e w' => e = .returned (.int .i64 0) ∧ XM w' g (Cnt.rput L (k, Cnt.was L k + n)) ∧ ExtG g w w' := by
  obtain ⟨⟨k1, k2⟩, k3, k4⟩ := k
  dsimp only at *
  obtain ⟨c1, c2, c3, c4⟩ := boxP w (.int .i64 k1) (.int .i64 k2) (.int .i64 k3) (.int .i64 k4)
  have HX := Lib.hid (show Ext w ((w.alloc (.cells #[.int .i64 k1, .int .i64 k2] 30)).alloc (.cells #[.int .i64 k3, .int .i64 k4] 32)) from ((Ext.refl _).alloc _).alloc _)
  have HK := Lib.hid (fun w => rcheck_any (k3, k4) w)
  have HM := Lib.hid (h.ext HX.out)
  have HF := Lib.hid (fun (w : World) (h : XM w g L) => rof_any w g L h (by omega) ((k1, k2), k3, k4))
  have hgl := h.row.elim fun _ q => q.1.lt
  obtain ⟨z0, z1⟩ := Cnt.was_bounds h.good ((k1, k2), k3, k4)
  rw [hk] at HK
  clear hk
  generalize hz : Cnt.was L ((k1, k2), k3, k4) = z at *
  have hgd := h.good
  clear h
  go_enter Try.func11, Try.ntmps11
  go_wp2_with fail
  refine (HK.out _).mono ?_
  rintro e w1 ⟨rfl, he1⟩
  have c1 := he1.cell c1
  have c2 := he1.cell c2
  have c3 := he1.cell c3
  have c4 := he1.cell c4
  have HX1 := Lib.hid (HX.out.trans he1)
  have HM1 := Lib.hid (HM.out.ext he1)
  clear he1 HX HM
  go_wp2_with fail
  refine (HF.out _ HM1.out).mono ?_
  rintro e w2 ⟨rfl, he2⟩
  have c1 := he2.cell c1
  have c2 := he2.cell c2
  have c3 := he2.cell c3
  have c4 := he2.cell c4
  have HX2 := Lib.hid (HX1.out.trans he2)
  have HM2 := Lib.hid (HM1.out.ext he2)
  clear he2 HX1 HM1
  have g1 : ¬ n < -z := by omega
  have g2 : ¬ 1073741824 - z < n := by omega
  have hm0 : 0 ≤ z + n := by omega
  have hm1 : z + n ≤ 1073741824 := by omega
  go_upto_region 7 with fail
  generalize hm : z + n = m at hm0 hm1 ⊢
  have HS3 := Lib.hid (Blk.new w2 34 #[.int .i64 k1, .int .i64 k2, .int .i64 k3, .int .i64 k4, .int .i64 m])
  have hx3 : Ext w2 (w2.alloc (.cells #[.int .i64 k1, .int .i64 k2, .int .i64 k3, .int .i64 k4, .int .i64 m] 34)) := (Ext.refl _).alloc _
  have c1 := hx3.cell c1
  have c2 := hx3.cell c2
  have c3 := hx3.cell c3
  have c4 := hx3.cell c4
  have HX3 := Lib.hid (HX2.out.trans hx3)
  have HM3 := Lib.hid (HM2.out.ext hx3)
  clear hx3 HX2 HM2
  generalize w2.alloc (.cells #[.int .i64 k1, .int .i64 k2, .int .i64 k3, .int .i64 k4, .int .i64 m] 34) = w3 at *
  generalize w2.heap.size = ns at *
  obtain ⟨v, hb, hr⟩ := HM3.out.row
  obtain ⟨A, c, rfl⟩ := hr.form
  have HBG := Lib.hid hb
  have HR := Lib.hid hr
  have HBX := Lib.hid (And.intro c1 (And.intro c2 (And.intro c3 c4)))
  have HGL := Lib.hid (show g < w3.heap.size from hb.lt)
  have HSP := Lib.hid (fun st (h : L.foldl (Cnt.rstep (((k1, k2), k3, k4), m)) ([], m == 0) = st) => show Cnt.rput L (((k1, k2), k3, k4), m) = if st.2 = true then st.1 else st.1 ++ [(((k1, k2), k3, k4), m)] by unfold Cnt.rput; rw [h])
  have HGP := Lib.hid (Cnt.rput_good hgd (((k1, k2), k3, k4), m) hm0 hm1)
  have HHM := Lib.hid hm
  have hE := eqPl
  have hE2 := eqM
  have hG := guardPl
  have hG2 := guardM
  have HWG := Lib.hid hgl
  clear hb hr c1 c2 c3 c4 HM3 hm hgl
  have s4 : w3.cell? ⟨ns, 4, none⟩ = some (.int .i64 m) := HS3.out.cell 4
  go_wp2
  go_loopw [11, 12, 13] (fun o p i wr => ∃ j : Nat, j ≤ L.length ∧ i = .int .i64 j ∧ p = .bool ((L.take j).foldl (Cnt.rstep (((k1, k2), k3, k4), m)) ([], m == 0)).2 ∧ OE 34 w3.heap.size wr o ((L.take j).foldl (Cnt.rstep (((k1, k2), k3, k4), m)) ([], m == 0)).1 ∧ Ext w3 wr) (fun _ _ i _ => L.length - (intOf i).toNat)
  case atStart => exact ⟨0, Nat.zero_le _, rfl, rfl, OE.nilS _ _ _, Ext.refl _⟩
  case round =>
    obtain ⟨j, hj, rfl, rfl, ho, hext⟩ := hrel
    rename World => wA
    have HO := Lib.hid ho
    have HE := Lib.hid hext
    have cb : wA.cell? ⟨g, 0, none⟩ = some (.slice A L.length c) := (HBG.out.ext hext).cell 0
    have s0 : wA.cell? ⟨ns, 0, none⟩ = some (.int .i64 k1) := (HS3.out.ext hext).cell 0
    have s1 : wA.cell? ⟨ns, 1, none⟩ = some (.int .i64 k2) := (HS3.out.ext hext).cell 1
    have s2 : wA.cell? ⟨ns, 2, none⟩ = some (.int .i64 k3) := (HS3.out.ext hext).cell 2
    have s3 : wA.cell? ⟨ns, 3, none⟩ = some (.int .i64 k4) := (HS3.out.ext hext).cell 3
    have s4 : wA.cell? ⟨ns, 4, none⟩ = some (.int .i64 m) := (HS3.out.ext hext).cell 4
    obtain ⟨p0, p1, m0, m1⟩ := HBX.out
    have p0 := hext.cell p0
    have p1 := hext.cell p1
    have m0 := hext.cell m0
    have m1 := hext.cell m1
    have hlen := rstep_len (((k1, k2), k3, k4), m) (L.take j) ([], m == 0)
    rw [List.length_nil, Nat.zero_add, List.length_take, Nat.min_eq_left hj] at hlen
    by_cases hlt : j < L.length
    · have g3 : (j : Int) < (L.length : Int) := by omega
      have g0 : 0 ≤ (j : Int) := by omega
      obtain ⟨bA, oA, rfl, e0, e1, e2, e3, e4⟩ := re5 (HR.out.ext hext) hlt
      have HST := Lib.hid (rstep_take (((k1, k2), k3, k4), m) L j hlt ([], m == 0))
      have HBF := Lib.hid (rbefore_any (((k1, k2), k3, k4), m) L[j])
      generalize (L.take j).foldl (Cnt.rstep (((k1, k2), k3, k4), m)) ([], m == 0) = st at *
      obtain ⟨S, P⟩ := st
      generalize L[j] = x at *
      obtain ⟨⟨⟨x1, x2⟩, x3, x4⟩, x5⟩ := x
      dsimp only at *
      obtain ⟨AS, cS, rfl⟩ := ho.re.form
      have HBN := Lib.hid (Blk.new wA 34 #[.int .i64 x1, .int .i64 x2, .int .i64 x3, .int .i64 x4, .int .i64 x5])
      have hxn : Ext wA (wA.alloc (.cells #[.int .i64 x1, .int .i64 x2, .int .i64 x3, .int .i64 x4, .int .i64 x5] 34)) := (Ext.refl _).alloc _
      have HXN := Lib.hid (HE.out.trans hxn)
      have HON := Lib.hid (HO.out.ext hxn)
      have HLO := Lib.hid (fun k (hk : (Value.slice AS S.length cS).ownBlock = some k) => Nat.ne_of_lt (ho.own.lt k hk).2)
      have p0 := hxn.cell p0
      have p1 := hxn.cell p1
      have m0 := hxn.cell m0
      have m1 := hxn.cell m1
      have s0 := hxn.cell s0
      have s1 := hxn.cell s1
      have s2 := hxn.cell s2
      have s3 := hxn.cell s3
      have s4 := hxn.cell s4
      clear ho hext hxn
      by_cases hp : (x1, x2) = (k1, k2)
      · by_cases hmm : (x3, x4) = (k3, k4)
        · have d1 := pairB_t hp
          have d2 := pairB_t hmm
          have HEQ := Lib.hid (rstep_eq (s := (((k1, k2), k3, k4), m)) (st := (S, P)) (x := (((x1, x2), x3, x4), x5)) (by rw [hp, hmm]))
          clear hp hmm HBF
          go_wp2
          exact ⟨⟨j + 1, by omega, by go_num, by rw [HST.out, HEQ.out], by rw [HST.out, HEQ.out]; exact HON.out, HXN.out⟩, by simp [intOf]; omega⟩
        · have d1 := pairB_t hp
          have d2 := pairB_f hmm
          have HNK := Lib.hid (show ((x1, x2), x3, x4) ≠ ((k1, k2), k3, k4) by intro q; injection q with _ q; exact hmm q)
          clear hp hmm
          cases P with
          | true =>
            go_upto_region 17 with fail
            generalize hwc : wA.alloc (.cells #[.int .i64 x1, .int .i64 x2, .int .i64 x3, .int .i64 x4, .int .i64 x5] 34) = wc at *
            have HXc := Lib.hid HXN.out
            have HOc := Lib.hid HON.out
            have HBc := Lib.hid HBN.out
            have HLS := Lib.hid (show S.length ≤ 1000000 by omega)
            generalize hnx : wA.heap.size = nx at *
            clear hwc hnx
            have y0 : wc.cell? ⟨nx, 0, none⟩ = some (.int .i64 x1) := HBc.out.cell 0
            have y1 : wc.cell? ⟨nx, 1, none⟩ = some (.int .i64 x2) := HBc.out.cell 1
            have y2 : wc.cell? ⟨nx, 2, none⟩ = some (.int .i64 x3) := HBc.out.cell 2
            have y3 : wc.cell? ⟨nx, 3, none⟩ = some (.int .i64 x4) := HBc.out.cell 3
            have y4 : wc.cell? ⟨nx, 4, none⟩ = some (.int .i64 x5) := HBc.out.cell 4
            have hxl : Ext wc (wc.alloc (.cells #[.int .i64 x1, .int .i64 x2, .int .i64 x3, .int .i64 x4, .int .i64 x5] 34)) := (Ext.refl _).alloc _
            have HLT := Lib.hid (RE.lit wc #[.int .i64 x1, .int .i64 x2, .int .i64 x3, .int .i64 x4, .int .i64 x5] 34 1 [(((x1, x2), x3, x4), x5)] rfl (by omega) rfl)
            have HOl := Lib.hid (HOc.out.ext hxl)
            have HXl := Lib.hid (HXc.out.trans hxl)
            clear hxl
            go_wp2_with (at_builtin; refine wpList_appE rfl elemS _ _ _ rfl w3.heap.size _ _ S [(((x1, x2), x3, x4), x5)] rfl HOl.out rfl HLT.out (by have := HLS.out; simp only [List.length_singleton]; omega) (by have := HLS.out; simp only [List.length_singleton]; unfold maxLen; omega) HXl.out.size ?_; intro v8 w8 ho8 hb8 hg8)
            refine ⟨⟨j + 1, by omega, by go_num, by rw [HST.out, rstep_one HNK.out (.inl rfl)], by rw [HST.out, rstep_one HNK.out (.inl rfl)]; exact ho8, Below.trans HXl.out hb8⟩, by simp [intOf]; omega⟩
          | false =>
            go_upto_region 14 with fail
            generalize hwn : wA.alloc (.cells #[.int .i64 x1, .int .i64 x2, .int .i64 x3, .int .i64 x4, .int .i64 x5] 34) = wn at *
            have z0 : wn.cell? ⟨wA.heap.size, 0, none⟩ = some (.int .i64 x1) := HBN.out.cell 0
            have z1 : wn.cell? ⟨wA.heap.size, 1, none⟩ = some (.int .i64 x2) := HBN.out.cell 1
            have z2 : wn.cell? ⟨wA.heap.size, 2, none⟩ = some (.int .i64 x3) := HBN.out.cell 2
            have z3 : wn.cell? ⟨wA.heap.size, 3, none⟩ = some (.int .i64 x4) := HBN.out.cell 3
            have z4 : wn.cell? ⟨wA.heap.size, 4, none⟩ = some (.int .i64 x5) := HBN.out.cell 4
            generalize hnx : wA.heap.size = nx at *
            clear hwn hnx
            go_wp2_with fail
            refine (HBF.out _).mono ?_
            rintro e wc ⟨rfl, hec⟩
            have HXc := Lib.hid (HXN.out.trans hec)
            have HOc := Lib.hid (HON.out.ext hec)
            have HBc := Lib.hid (HBN.out.ext hec)
            have HLS := Lib.hid (show S.length ≤ 1000000 by omega)
            have s0 := hec.cell s0
            have s1 := hec.cell s1
            have s2 := hec.cell s2
            have s3 := hec.cell s3
            have s4 := hec.cell s4
            clear hec z0 z1 z2 z3 z4
            by_cases hbq : Cnt.klt ((k1, k2), k3, k4) ((x1, x2), x3, x4)
            · rw [decide_eq_true hbq]
              have HBQ := Lib.hid hbq
              clear hbq
              have hxs : Ext wc (wc.alloc (.cells #[.int .i64 k1, .int .i64 k2, .int .i64 k3, .int .i64 k4, .int .i64 m] 34)) := (Ext.refl _).alloc _
              have HLS2 := Lib.hid (RE.lit wc #[.int .i64 k1, .int .i64 k2, .int .i64 k3, .int .i64 k4, .int .i64 m] 34 1 [(((k1, k2), k3, k4), m)] rfl (by omega) rfl)
              have HOs := Lib.hid (HOc.out.ext hxs)
              have HXs := Lib.hid (HXc.out.trans hxs)
              have HBs := Lib.hid (HBc.out.ext hxs)
              clear hxs
              go_upto_region 16 with (at_builtin; refine wpList_appE rfl elemS _ _ _ rfl w3.heap.size _ _ S [(((k1, k2), k3, k4), m)] rfl HOs.out rfl HLS2.out (by have := HLS.out; simp only [List.length_singleton]; omega) (by have := HLS.out; simp only [List.length_singleton]; unfold maxLen; omega) HXs.out.size ?_; intro v7 w7 ho7 hb7 hg7)
              have HB7 := Lib.hid (blk_grown HBs.out hg7 HLO.out)
              have HX7 := Lib.hid (show Ext w3 w7 from Below.trans HXs.out hb7)
              have HO7 := Lib.hid ho7
              obtain ⟨A7, c7, rfl⟩ := ho7.re.form
              have hl7 : (S ++ [(((k1, k2), k3, k4), m)]).length ≤ 1000001 := by have := HLS.out; rw [List.length_append, List.length_singleton]; omega
              clear hb7 hg7 ho7 HXc HOc HBc HOs HXs HBs HLS HLS2 s0 s1 s2 s3 s4
              have HLE := Lib.hid (rstep_both (s := (((k1, k2), k3, k4), m)) (o := S) (x := (((x1, x2), x3, x4), x5)) HNK.out HBQ.out)
              generalize S ++ [(((k1, k2), k3, k4), m)] = S7 at *
              have HXc := Lib.hid HX7.out
              have HOc := Lib.hid HO7.out
              have HBc := Lib.hid HB7.out
              have HLS := Lib.hid (show S7.length ≤ 1000001 from hl7)
              clear HX7 HO7 HB7 hl7
              generalize w7 = wc at *
              have y0 : wc.cell? ⟨nx, 0, none⟩ = some (.int .i64 x1) := HBc.out.cell 0
              have y1 : wc.cell? ⟨nx, 1, none⟩ = some (.int .i64 x2) := HBc.out.cell 1
              have y2 : wc.cell? ⟨nx, 2, none⟩ = some (.int .i64 x3) := HBc.out.cell 2
              have y3 : wc.cell? ⟨nx, 3, none⟩ = some (.int .i64 x4) := HBc.out.cell 3
              have y4 : wc.cell? ⟨nx, 4, none⟩ = some (.int .i64 x5) := HBc.out.cell 4
              have hxl : Ext wc (wc.alloc (.cells #[.int .i64 x1, .int .i64 x2, .int .i64 x3, .int .i64 x4, .int .i64 x5] 34)) := (Ext.refl _).alloc _
              have HLT := Lib.hid (RE.lit wc #[.int .i64 x1, .int .i64 x2, .int .i64 x3, .int .i64 x4, .int .i64 x5] 34 1 [(((x1, x2), x3, x4), x5)] rfl (by omega) rfl)
              have HOl := Lib.hid (HOc.out.ext hxl)
              have HXl := Lib.hid (HXc.out.trans hxl)
              clear hxl
              go_wp2_with (at_builtin; refine wpList_appE rfl elemS _ _ _ rfl w3.heap.size _ _ S7 [(((x1, x2), x3, x4), x5)] rfl HOl.out rfl HLT.out (by have := HLS.out; simp only [List.length_singleton]; omega) (by have := HLS.out; simp only [List.length_singleton]; unfold maxLen; omega) HXl.out.size ?_; intro v8 w8 ho8 hb8 hg8)
              refine ⟨⟨j + 1, by omega, by go_num, by rw [HST.out, HLE.out], by rw [HST.out, HLE.out]; exact ho8, Below.trans HXl.out hb8⟩, by simp [intOf]; omega⟩
            · rw [decide_eq_false hbq]
              have HBQ := Lib.hid hbq
              clear hbq
              go_upto_region 17 with fail
              have y0 : wc.cell? ⟨nx, 0, none⟩ = some (.int .i64 x1) := HBc.out.cell 0
              have y1 : wc.cell? ⟨nx, 1, none⟩ = some (.int .i64 x2) := HBc.out.cell 1
              have y2 : wc.cell? ⟨nx, 2, none⟩ = some (.int .i64 x3) := HBc.out.cell 2
              have y3 : wc.cell? ⟨nx, 3, none⟩ = some (.int .i64 x4) := HBc.out.cell 3
              have y4 : wc.cell? ⟨nx, 4, none⟩ = some (.int .i64 x5) := HBc.out.cell 4
              have hxl : Ext wc (wc.alloc (.cells #[.int .i64 x1, .int .i64 x2, .int .i64 x3, .int .i64 x4, .int .i64 x5] 34)) := (Ext.refl _).alloc _
              have HLT := Lib.hid (RE.lit wc #[.int .i64 x1, .int .i64 x2, .int .i64 x3, .int .i64 x4, .int .i64 x5] 34 1 [(((x1, x2), x3, x4), x5)] rfl (by omega) rfl)
              have HOl := Lib.hid (HOc.out.ext hxl)
              have HXl := Lib.hid (HXc.out.trans hxl)
              clear hxl
              go_wp2_with (at_builtin; refine wpList_appE rfl elemS _ _ _ rfl w3.heap.size _ _ S [(((x1, x2), x3, x4), x5)] rfl HOl.out rfl HLT.out (by have := HLS.out; simp only [List.length_singleton]; omega) (by have := HLS.out; simp only [List.length_singleton]; unfold maxLen; omega) HXl.out.size ?_; intro v8 w8 ho8 hb8 hg8)
              refine ⟨⟨j + 1, by omega, by go_num, by rw [HST.out, rstep_one HNK.out (.inr HBQ.out)], by rw [HST.out, rstep_one HNK.out (.inr HBQ.out)]; exact ho8, Below.trans HXl.out hb8⟩, by simp [intOf]; omega⟩
      · have d1 := pairB_f hp
        have HNK := Lib.hid (show ((x1, x2), x3, x4) ≠ ((k1, k2), k3, k4) by intro q; injection q with q _; exact hp q)
        clear hp
        cases P with
        | true =>
          go_upto_region 17 with fail
          generalize hwc : wA.alloc (.cells #[.int .i64 x1, .int .i64 x2, .int .i64 x3, .int .i64 x4, .int .i64 x5] 34) = wc at *
          have HXc := Lib.hid HXN.out
          have HOc := Lib.hid HON.out
          have HBc := Lib.hid HBN.out
          have HLS := Lib.hid (show S.length ≤ 1000000 by omega)
          generalize hnx : wA.heap.size = nx at *
          clear hwc hnx
          have y0 : wc.cell? ⟨nx, 0, none⟩ = some (.int .i64 x1) := HBc.out.cell 0
          have y1 : wc.cell? ⟨nx, 1, none⟩ = some (.int .i64 x2) := HBc.out.cell 1
          have y2 : wc.cell? ⟨nx, 2, none⟩ = some (.int .i64 x3) := HBc.out.cell 2
          have y3 : wc.cell? ⟨nx, 3, none⟩ = some (.int .i64 x4) := HBc.out.cell 3
          have y4 : wc.cell? ⟨nx, 4, none⟩ = some (.int .i64 x5) := HBc.out.cell 4
          have hxl : Ext wc (wc.alloc (.cells #[.int .i64 x1, .int .i64 x2, .int .i64 x3, .int .i64 x4, .int .i64 x5] 34)) := (Ext.refl _).alloc _
          have HLT := Lib.hid (RE.lit wc #[.int .i64 x1, .int .i64 x2, .int .i64 x3, .int .i64 x4, .int .i64 x5] 34 1 [(((x1, x2), x3, x4), x5)] rfl (by omega) rfl)
          have HOl := Lib.hid (HOc.out.ext hxl)
          have HXl := Lib.hid (HXc.out.trans hxl)
          clear hxl
          go_wp2_with (at_builtin; refine wpList_appE rfl elemS _ _ _ rfl w3.heap.size _ _ S [(((x1, x2), x3, x4), x5)] rfl HOl.out rfl HLT.out (by have := HLS.out; simp only [List.length_singleton]; omega) (by have := HLS.out; simp only [List.length_singleton]; unfold maxLen; omega) HXl.out.size ?_; intro v8 w8 ho8 hb8 hg8)
          refine ⟨⟨j + 1, by omega, by go_num, by rw [HST.out, rstep_one HNK.out (.inl rfl)], by rw [HST.out, rstep_one HNK.out (.inl rfl)]; exact ho8, Below.trans HXl.out hb8⟩, by simp [intOf]; omega⟩
        | false =>
          go_upto_region 14 with fail
          generalize hwn : wA.alloc (.cells #[.int .i64 x1, .int .i64 x2, .int .i64 x3, .int .i64 x4, .int .i64 x5] 34) = wn at *
          have z0 : wn.cell? ⟨wA.heap.size, 0, none⟩ = some (.int .i64 x1) := HBN.out.cell 0
          have z1 : wn.cell? ⟨wA.heap.size, 1, none⟩ = some (.int .i64 x2) := HBN.out.cell 1
          have z2 : wn.cell? ⟨wA.heap.size, 2, none⟩ = some (.int .i64 x3) := HBN.out.cell 2
          have z3 : wn.cell? ⟨wA.heap.size, 3, none⟩ = some (.int .i64 x4) := HBN.out.cell 3
          have z4 : wn.cell? ⟨wA.heap.size, 4, none⟩ = some (.int .i64 x5) := HBN.out.cell 4
          generalize hnx : wA.heap.size = nx at *
          clear hwn hnx
          go_wp2_with fail
          refine (HBF.out _).mono ?_
          rintro e wc ⟨rfl, hec⟩
          have HXc := Lib.hid (HXN.out.trans hec)
          have HOc := Lib.hid (HON.out.ext hec)
          have HBc := Lib.hid (HBN.out.ext hec)
          have HLS := Lib.hid (show S.length ≤ 1000000 by omega)
          have s0 := hec.cell s0
          have s1 := hec.cell s1
          have s2 := hec.cell s2
          have s3 := hec.cell s3
          have s4 := hec.cell s4
          clear hec z0 z1 z2 z3 z4
          by_cases hbq : Cnt.klt ((k1, k2), k3, k4) ((x1, x2), x3, x4)
          · rw [decide_eq_true hbq]
            have HBQ := Lib.hid hbq
            clear hbq
            have hxs : Ext wc (wc.alloc (.cells #[.int .i64 k1, .int .i64 k2, .int .i64 k3, .int .i64 k4, .int .i64 m] 34)) := (Ext.refl _).alloc _
            have HLS2 := Lib.hid (RE.lit wc #[.int .i64 k1, .int .i64 k2, .int .i64 k3, .int .i64 k4, .int .i64 m] 34 1 [(((k1, k2), k3, k4), m)] rfl (by omega) rfl)
            have HOs := Lib.hid (HOc.out.ext hxs)
            have HXs := Lib.hid (HXc.out.trans hxs)
            have HBs := Lib.hid (HBc.out.ext hxs)
            clear hxs
            go_upto_region 16 with (at_builtin; refine wpList_appE rfl elemS _ _ _ rfl w3.heap.size _ _ S [(((k1, k2), k3, k4), m)] rfl HOs.out rfl HLS2.out (by have := HLS.out; simp only [List.length_singleton]; omega) (by have := HLS.out; simp only [List.length_singleton]; unfold maxLen; omega) HXs.out.size ?_; intro v7 w7 ho7 hb7 hg7)
            have HB7 := Lib.hid (blk_grown HBs.out hg7 HLO.out)
            have HX7 := Lib.hid (show Ext w3 w7 from Below.trans HXs.out hb7)
            have HO7 := Lib.hid ho7
            obtain ⟨A7, c7, rfl⟩ := ho7.re.form
            have hl7 : (S ++ [(((k1, k2), k3, k4), m)]).length ≤ 1000001 := by have := HLS.out; rw [List.length_append, List.length_singleton]; omega
            clear hb7 hg7 ho7 HXc HOc HBc HOs HXs HBs HLS HLS2 s0 s1 s2 s3 s4
            have HLE := Lib.hid (rstep_both (s := (((k1, k2), k3, k4), m)) (o := S) (x := (((x1, x2), x3, x4), x5)) HNK.out HBQ.out)
            generalize S ++ [(((k1, k2), k3, k4), m)] = S7 at *
            have HXc := Lib.hid HX7.out
            have HOc := Lib.hid HO7.out
            have HBc := Lib.hid HB7.out
            have HLS := Lib.hid (show S7.length ≤ 1000001 from hl7)
            clear HX7 HO7 HB7 hl7
            generalize w7 = wc at *
            have y0 : wc.cell? ⟨nx, 0, none⟩ = some (.int .i64 x1) := HBc.out.cell 0
            have y1 : wc.cell? ⟨nx, 1, none⟩ = some (.int .i64 x2) := HBc.out.cell 1
            have y2 : wc.cell? ⟨nx, 2, none⟩ = some (.int .i64 x3) := HBc.out.cell 2
            have y3 : wc.cell? ⟨nx, 3, none⟩ = some (.int .i64 x4) := HBc.out.cell 3
            have y4 : wc.cell? ⟨nx, 4, none⟩ = some (.int .i64 x5) := HBc.out.cell 4
            have hxl : Ext wc (wc.alloc (.cells #[.int .i64 x1, .int .i64 x2, .int .i64 x3, .int .i64 x4, .int .i64 x5] 34)) := (Ext.refl _).alloc _
            have HLT := Lib.hid (RE.lit wc #[.int .i64 x1, .int .i64 x2, .int .i64 x3, .int .i64 x4, .int .i64 x5] 34 1 [(((x1, x2), x3, x4), x5)] rfl (by omega) rfl)
            have HOl := Lib.hid (HOc.out.ext hxl)
            have HXl := Lib.hid (HXc.out.trans hxl)
            clear hxl
            go_wp2_with (at_builtin; refine wpList_appE rfl elemS _ _ _ rfl w3.heap.size _ _ S7 [(((x1, x2), x3, x4), x5)] rfl HOl.out rfl HLT.out (by have := HLS.out; simp only [List.length_singleton]; omega) (by have := HLS.out; simp only [List.length_singleton]; unfold maxLen; omega) HXl.out.size ?_; intro v8 w8 ho8 hb8 hg8)
            refine ⟨⟨j + 1, by omega, by go_num, by rw [HST.out, HLE.out], by rw [HST.out, HLE.out]; exact ho8, Below.trans HXl.out hb8⟩, by simp [intOf]; omega⟩
          · rw [decide_eq_false hbq]
            have HBQ := Lib.hid hbq
            clear hbq
            go_upto_region 17 with fail
            have y0 : wc.cell? ⟨nx, 0, none⟩ = some (.int .i64 x1) := HBc.out.cell 0
            have y1 : wc.cell? ⟨nx, 1, none⟩ = some (.int .i64 x2) := HBc.out.cell 1
            have y2 : wc.cell? ⟨nx, 2, none⟩ = some (.int .i64 x3) := HBc.out.cell 2
            have y3 : wc.cell? ⟨nx, 3, none⟩ = some (.int .i64 x4) := HBc.out.cell 3
            have y4 : wc.cell? ⟨nx, 4, none⟩ = some (.int .i64 x5) := HBc.out.cell 4
            have hxl : Ext wc (wc.alloc (.cells #[.int .i64 x1, .int .i64 x2, .int .i64 x3, .int .i64 x4, .int .i64 x5] 34)) := (Ext.refl _).alloc _
            have HLT := Lib.hid (RE.lit wc #[.int .i64 x1, .int .i64 x2, .int .i64 x3, .int .i64 x4, .int .i64 x5] 34 1 [(((x1, x2), x3, x4), x5)] rfl (by omega) rfl)
            have HOl := Lib.hid (HOc.out.ext hxl)
            have HXl := Lib.hid (HXc.out.trans hxl)
            clear hxl
            go_wp2_with (at_builtin; refine wpList_appE rfl elemS _ _ _ rfl w3.heap.size _ _ S [(((x1, x2), x3, x4), x5)] rfl HOl.out rfl HLT.out (by have := HLS.out; simp only [List.length_singleton]; omega) (by have := HLS.out; simp only [List.length_singleton]; unfold maxLen; omega) HXl.out.size ?_; intro v8 w8 ho8 hb8 hg8)
            refine ⟨⟨j + 1, by omega, by go_num, by rw [HST.out, rstep_one HNK.out (.inr HBQ.out)], by rw [HST.out, rstep_one HNK.out (.inr HBQ.out)]; exact ho8, Below.trans HXl.out hb8⟩, by simp [intOf]; omega⟩
    · obtain rfl : j = L.length := by omega
      rw [List.take_length] at HO hlen ⊢
      have g3 : ¬ (L.length : Int) < (L.length : Int) := by omega
      have HBE := Lib.hid (HBG.out.ext hext)
      generalize hst : L.foldl (Cnt.rstep (((k1, k2), k3, k4), m)) ([], m == 0) = st at *
      have HRQ := Lib.hid (HSP.out st rfl)
      obtain ⟨S, P⟩ := st
      dsimp only at *
      obtain ⟨AS, cS, rfl⟩ := HO.out.re.form
      clear ho hext hst HSP
      cases P with
      | true =>
        have hfz : wA.frozen? ⟨g, 0, none⟩ = false := HBE.out.frozen 0
        rw [if_pos rfl] at HRQ
        go_wp2
        go_ret
        obtain ⟨hs1, hs2⟩ := store_XM HBE.out HO.out HGL.out (by rw [← HRQ.out]; exact HGP.out)
        rw [HHM.out, HRQ.out]
        exact ⟨rfl, hs1, (ExtG.of (HX3.out.trans HE.out)).trans hs2⟩
      | false =>
        rw [if_neg (by simp)] at HRQ
        have s0 : wA.cell? ⟨ns, 0, none⟩ = some (.int .i64 k1) := (HS3.out.ext HE.out).cell 0
        have s1 : wA.cell? ⟨ns, 1, none⟩ = some (.int .i64 k2) := (HS3.out.ext HE.out).cell 1
        have s2 : wA.cell? ⟨ns, 2, none⟩ = some (.int .i64 k3) := (HS3.out.ext HE.out).cell 2
        have s3 : wA.cell? ⟨ns, 3, none⟩ = some (.int .i64 k4) := (HS3.out.ext HE.out).cell 3
        have s4 : wA.cell? ⟨ns, 4, none⟩ = some (.int .i64 m) := (HS3.out.ext HE.out).cell 4
        have hxs : Ext wA (wA.alloc (.cells #[.int .i64 k1, .int .i64 k2, .int .i64 k3, .int .i64 k4, .int .i64 m] 34)) := (Ext.refl _).alloc _
        have HLS2 := Lib.hid (RE.lit wA #[.int .i64 k1, .int .i64 k2, .int .i64 k3, .int .i64 k4, .int .i64 m] 34 1 [(((k1, k2), k3, k4), m)] rfl (by omega) rfl)
        have HOs := Lib.hid (HO.out.ext hxs)
        have HXs := Lib.hid (HE.out.trans hxs)
        have HBs := Lib.hid (HBE.out.ext hxs)
        have HLN := Lib.hid (show S.length ≤ 1000000 by omega)
        clear hxs
        go_upto_region 20 with (at_builtin; refine wpList_appE rfl elemS _ _ _ rfl w3.heap.size _ _ S [(((k1, k2), k3, k4), m)] rfl HOs.out rfl HLS2.out (by have := HLN.out; simp only [List.length_singleton]; omega) (by have := HLN.out; simp only [List.length_singleton]; unfold maxLen; omega) HXs.out.size ?_; intro v7 w7 ho7 hb7 hg7)
        have HB7 := Lib.hid (HBG.out.ext (show Ext w3 w7 from Below.trans HXs.out hb7))
        have hfz : w7.frozen? ⟨g, 0, none⟩ = false := HB7.out.frozen 0
        have cb7 : w7.cell? ⟨g, 0, none⟩ = some (.slice A L.length c) := HB7.out.cell 0
        have HX7 := Lib.hid (show Ext w3 w7 from Below.trans HXs.out hb7)
        have HO7 := Lib.hid ho7
        obtain ⟨A7, c7, rfl⟩ := ho7.re.form
        clear hb7 hg7 ho7 s0 s1 s2 s3 s4
        generalize S ++ [(((k1, k2), k3, k4), m)] = S7 at *
        go_wp2
        go_ret
        obtain ⟨hs1, hs2⟩ := store_XM HB7.out HO7.out HGL.out (by rw [← HRQ.out]; exact HGP.out)
        rw [HHM.out, HRQ.out]
        exact ⟨rfl, hs1, (ExtG.of (HX3.out.trans HX7.out)).trans hs2⟩
end Go.Proofs.Ytngdlahgihbmhaa
