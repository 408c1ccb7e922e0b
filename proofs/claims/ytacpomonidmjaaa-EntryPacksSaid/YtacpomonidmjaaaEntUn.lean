/-
  entry.Unpack and the document's Unpack.
-/
import Derived.Test.YtacpomonidmjaaaEntUnMath
import Derived.Test.YtacpomonidmjaaaEntSort
namespace Go.Proofs.Ytacpomonidmjaaa
open Go.RowKit Go.Ox Go.Shelf
attribute [local irreducible] OE RE
set_option linter.unusedVariables false
set_option linter.unusedSimpArgs false

/-- what the loops of Unpack hold -/
structure UnI (K : Nat → Prop) (T : TypeId) (w1 : World) (g : Nat) (rest : List UInt8) (out : List Ent.E) (o : Value) (w : World) : Prop where
  nr : Rdr K T w g rest false
  own : OE 28 w1.heap.size w o out
  ext : ExtQ (fun j => j = g) w1 w
  bd : g < w1.heap.size ∧ ∀ b, K b → b < w1.heap.size
section
variable {K : Nat → Prop} {T : TypeId} {w1 : World} {g : Nat} {rest rest' : List UInt8} {out out' : List Ent.E} {o o' : Value} {w w2 w3 w4 : World}
theorem UnI.hK (h : UnI K T w1 g rest out o w) : ∀ b, K b → b < w.heap.size := fun b hb => Nat.lt_of_lt_of_le (h.bd.2 b hb) h.ext.size
theorem UnI.high (h : UnI K T w1 g rest out o w) {j : Nat} (hj : o.ownBlock = some j) : w1.heap.size ≤ j := (h.own.lt hj).1
theorem UnI.own2 (h : UnI K T w1 g rest out o w) (he : ExtG g w w2) : OE 28 w1.heap.size w2 o out :=
  h.own.grown he.grown fun j hj e => by injection e with e; have := h.high hj; have := h.bd.1; omega
theorem UnI.step (h : UnI K T w1 g rest out o w) (he2 : ExtG g w w2) (hr2 : Rdr K T w2 g rest' false) (he3 : Ext w2 w3) (ha : w3.grownBy w4 o.ownBlock) (ho : OE 28 w1.heap.size w4 o' out') : UnI K T w1 g rest' out' o' w4 := by
  refine ⟨(hr2.ext he3).grown ha fun j hj => ?_, ho, ?_, h.bd⟩
  · have h1 := h.high hj
    exact ⟨fun hk => by have := h.bd.2 j hk; omega, by have := h.bd.1; omega⟩
  · have e1 := (h.ext.trans (ExtQ.extG (Q := fun j => j = g) he2 rfl)).trans (ExtQ.of he3)
    exact ((e1.mono (Q' := fun j => j = g ∨ o.ownBlock = some j) (fun j q => .inl q)).trans (ExtQ.grown ha fun j q => .inr q)).mono' fun j hl q => by
      rcases q with q | q
      · exact q
      · have := h.high q; omega
theorem UnI.outQ (h : UnI K T w1 g rest out o w) (he2 : ExtG g w w2) : ExtQ (fun j => j = g) w1 w2 := h.ext.trans (ExtQ.extG (Q := fun j => j = g) he2 rfl)
end

set_option maxRecDepth 100000 in
set_option maxHeartbeats 4000000 in
theorem unp_any (v : Value) (b : List UInt8) (w : World) (hv : RB w v b) (hl : b.length ≤ 1000000) :
    Calls Try.prog 23 #[v] w fun e w' => ∃ u, e = .returned (.tuple #[u, .int .i64 (unE b)]) ∧ RE w' u (unL b) ∧ Ext w w' := by
  have HF := Lib.hid (from_any v b w hv hl)
  have HLONG := Lib.hid (fun h => @unL_long b h)
  obtain ⟨A, c, rfl⟩ := RB.form hv
  clear hv
  by_cases hlong : 43 < b.length
  · have g1 : (43 : Int) < (b.length : Int) := by omega
    have HE := Lib.hid (HLONG.out hlong)
    generalize unE b = dE at *
    generalize unL b = dL at *
    clear hlong HF HLONG
    go_enter Try.func23, Try.ntmps23
    go_wp2
    go_ret2
    rw [HE.out.1, HE.out.2]
    exact ⟨_, rfl, RE.nilS _, Ext.refl _⟩
  have HNONE := Lib.hid (fun hn => @unL_none b hlong hn)
  have HSOME := Lib.hid (fun l hn => @unL_some b l hlong hn)
  have g1 : ¬ (43 : Int) < (b.length : Int) := by omega
  have HBL := Lib.hid hl
  generalize unE b = dE at *
  generalize unL b = dL at *
  clear hlong HLONG hl
  go_enter Try.func23, Try.ntmps23
  go_wp2_with fail
  refine HF.out.mono ?_
  rintro e w1 ⟨g, rfl, hr1, he1, hg1⟩
  have HR1 := Lib.hid hr1
  have HX1 := Lib.hid he1
  have HG1 := Lib.hid hg1
  have HGW := Lib.hid (show g < w1.heap.size from hr1.lt)
  clear hr1 he1 hg1 HF
  go_wp2
  go_loopw [4] (fun o wr => ∃ (rest : List UInt8) (out : List Ent.E), UnR b out rest ∧ UnI (fun j => j < w1.heap.size) 99 w1 g rest out o wr) (fun o _ => b.length - slLen o)
  case atStart => exact ⟨b, [], UnR.start b, ⟨HR1.out, OE.nilS _ _ _, ExtQ.refl _ _, HGW.out, fun b hb => hb⟩⟩
  case round =>
    obtain ⟨rest, out, hR, hI⟩ := hrel
    rename World => wA
    have HI := Lib.hid hI
    have HR := Lib.hid hR
    obtain ⟨AO, cO, rfl⟩ := hI.own.re.form
    have HL := Lib.hid (left_any g ⟨rest, false⟩ wA hI.nr)
    have hlp : Num.leftP ⟨rest, false⟩ = rest.length := rfl
    rw [hlp] at HL
    have HLEN := Lib.hid hR.len
    clear hI hR hlp
    by_cases hne : rest = []
    · have HD := Lib.hid (HSOME.out out (by have h := HR.out; rw [hne] at h; exact h.done))
      have g2 : ¬ (0 : Int) < (rest.length : Int) := by rw [hne]; simp
      clear hne
      go_wp2_with fail
      refine HL.out.mono ?_
      rintro e w2 ⟨rfl, rfl⟩
      go_wp2
      go_ret2
      rw [HD.out.1, HD.out.2]
      exact ⟨_, rfl, HI.out.own.re, HX1.out.andQ HI.out.ext fun j hj => by have := HG1.out; omega⟩
    · have g2 : (0 : Int) < (rest.length : Int) := by have := List.length_pos_iff.2 hne; omega
      have HNE := Lib.hid hne
      have HRL := Lib.hid (show rest.length ≤ 1000000 by have := HLEN.out; have := HBL.out; omega)
      have HRD := Lib.hid (Mo.mread_any g ⟨rest, false⟩ wA HI.out.nr HRL.out HI.out.hK)
      have HRD2 := Lib.hid (fun w h => mread_any (K := fun j => j < w1.heap.size) g (Mo.readS ⟨rest, false⟩) w h (Nat.le_trans (mom_len ⟨rest, false⟩) HRL.out))
      have HFAIL := Lib.hid (fun hB => HNONE.out (HR.out.fail hne hB))
      have HSTEP := Lib.hid (fun hB => HR.out.step hB)
      have HST := Lib.hid (fun hB => @un_st ⟨rest, false⟩ hB)
      have HIFF := Lib.hid (show unB ⟨rest, false⟩ ↔ Mo.readE ⟨rest, false⟩ = 0 ∧ Rec.readE (Mo.readS ⟨rest, false⟩) = 0 by unfold unB; exact Iff.rfl)
      have HUV := Lib.hid (show unV ⟨rest, false⟩ = (Mo.readV ⟨rest, false⟩, Rec.readV (Mo.readS ⟨rest, false⟩)) by unfold unV; rfl)
      have HUS := Lib.hid (show Rec.readS (Mo.readS ⟨rest, false⟩) = unS ⟨rest, false⟩ by unfold unS; rfl)
      have HSTP := Lib.hid (fun (rest' : List UInt8) (out' : List Ent.E) (w2 w3 w4 : World) (o' : Value) he2 hr2 he3 ha ho => HI.out.step (rest' := rest') (out' := out') (w2 := w2) (w3 := w3) (w4 := w4) (o' := o') he2 hr2 he3 ha ho)
      have HOWN := Lib.hid (fun (w2 : World) he => HI.out.own2 (w2 := w2) he)
      have HOUTQ := Lib.hid (fun (w2 : World) he => HI.out.outQ (w2 := w2) he)
      have HSA := Lib.hid (show w1.heap.size ≤ wA.heap.size from HI.out.ext.size)
      unfold Mo.ReadPost at HRD
      unfold ReadPost at HRD2
      rw [HUV.out] at HSTEP
      rw [HUS.out] at HRD2
      generalize unB ⟨rest, false⟩ = bq at *
      generalize unS ⟨rest, false⟩ = s2 at *
      generalize Mo.readE ⟨rest, false⟩ = e1 at *
      generalize Mo.readV ⟨rest, false⟩ = m at *
      generalize Mo.readS ⟨rest, false⟩ = s1 at *
      generalize Rec.readE s1 = e2 at *
      generalize Rec.readV s1 = x at *
      obtain ⟨m1, m2⟩ := m
      obtain ⟨x1, x2⟩ := x
      clear hne HR HUV HUS
      go_wp2_with fail
      refine HL.out.mono ?_
      rintro e w2 ⟨rfl, rfl⟩
      go_wp2_with fail
      refine HRD.out.mono ?_
      rintro e w4 ⟨rfl, hx4⟩
      have HX4 := Lib.hid hx4
      clear hx4
      obtain ⟨q4, hq4⟩ : ∃ q, w4.heap.size = q := ⟨_, rfl⟩
      have B4 := Blk.new w4 24 #[.int .i64 m1, .int .i64 m2]
      have HX5 := Lib.hid ((Ext.refl w4).alloc (.cells #[.int .i64 m1, .int .i64 m2] 24))
      have hqg : g < w4.heap.size := HX4.out.rdr.lt
      go_upto_region 7 with fail
      try rw [hq4]
      rw [hq4] at B4 hqg
      generalize w4.alloc (.cells #[.int .i64 m1, .int .i64 m2] 24) = w5 at *
      have HB4 := Lib.hid B4
      have HQG := Lib.hid (show q4 ≠ g by omega)
      have HRD3 := Lib.hid (HRD2.out w5 (HX4.out.rdr.ext HX5.out) (fun b hb => by have h1 := HSA.out; have h2 := HX4.out.extG.size; have h3 := HX5.out.size; omega))
      clear B4 hq4 hqg HRD2
      go_wp2_with fail
      refine HRD3.out.mono ?_
      rintro e w6 ⟨rfl, hx6⟩
      have HX6 := Lib.hid hx6
      clear hx6
      obtain ⟨q6, hq6⟩ : ∃ q, w6.heap.size = q := ⟨_, rfl⟩
      have B6 := Blk.new w6 26 #[.int .i64 x1, .int .i64 x2]
      have HX7 := Lib.hid ((Ext.refl w6).alloc (.cells #[.int .i64 x1, .int .i64 x2] 26))
      have B4 := (HB4.out.extG HX6.out.extG HQG.out).ext HX7.out
      go_upto_region 8 with fail
      try rw [hq6]
      rw [hq6] at B6
      generalize w6.alloc (.cells #[.int .i64 x1, .int .i64 x2] 26) = w7 at *
      have c0 : w7.cell? ⟨q4, 0, none⟩ = some (.int .i64 m1) := B4.cell 0
      have c1 : w7.cell? ⟨q4, 1, none⟩ = some (.int .i64 m2) := B4.cell 1
      have d0 : w7.cell? ⟨q6, 0, none⟩ = some (.int .i64 x1) := B6.cell 0
      have d1 : w7.cell? ⟨q6, 1, none⟩ = some (.int .i64 x2) := B6.cell 1
      have HXG := Lib.hid ((HX4.out.extG.trans (ExtG.of HX5.out)).trans HX6.out.extG)
      clear B4 B6 hq6
      by_cases h1 : e1 = 0
      · subst h1
        by_cases h2 : e2 = 0
        · subst h2
          have hB : bq := HIFF.out.2 ⟨rfl, rfl⟩
          have HU := Lib.hid (HSTEP.out hB)
          have HS2 := Lib.hid (HST.out hB)
          have HR6 := Lib.hid (show Rdr (fun j => j < w1.heap.size) 99 w6 g s2.l false by have h := HX6.out.rdr; rw [HS2.out] at h; exact h)
          have HOUT := Lib.hid (show out.length ≤ 1000000 by have := HLEN.out; have := HBL.out; omega)
          have HOL := Lib.hid (((HOWN.out w6 HXG.out).ext HX7.out).ext ((Ext.refl w7).alloc (.cells #[.int .i64 m1, .int .i64 m2, .int .i64 x1, .int .i64 x2] 28)))
          have HLIT := Lib.hid (RE.lit w7 #[.int .i64 m1, .int .i64 m2, .int .i64 x1, .int .i64 x2] 28 1 [(((m1, m2), x1, x2) : Ent.E)] rfl (by omega) rfl)
          have HSZ := Lib.hid (show w1.heap.size ≤ w7.heap.size from Nat.le_trans (Nat.le_trans HSA.out HXG.out.size) HX7.out.size)
          clear hB
          go_wp2_with (at_builtin; refine wpList_app rfl elemE _ _ _ rfl w1.heap.size _ out.length _ rfl HOL.out.own _ 1 _ rfl HLIT.out.rd (one_eV _) (by have := HOUT.out; omega) (by have := HOUT.out; unfold maxLen; omega) (by have := HSZ.out; simp; omega) ?_; intro v9 w9 ha)
          have ho9 := OE.app (l := out) (r := [(((m1, m2), x1, x2) : Ent.E)]) ha.own
          obtain ⟨A9, c9, hv9⟩ := ho9.re.form
          exact ⟨⟨s2.l, _, HU.out, HSTP.out _ _ w6 _ w9 v9 HXG.out HR6.out (HX7.out.trans ((Ext.refl w7).alloc _)) ha.grown ho9⟩, by have h3 := HU.out.len; rw [hv9]; simp only [slLen, List.length_append, List.length_singleton] at h3 ⊢; have := HLEN.out; have := List.length_pos_iff.2 HNE.out; omega⟩
        · have HE := Lib.hid (HFAIL.out fun hB => h2 (HIFF.out.1 hB).2)
          have hne2 : (e2 != 0) = true := by simpa using h2
          clear h2
          go_wp2
          go_ret2
          rw [HE.out.1, HE.out.2]
          exact ⟨_, rfl, RE.nilS _, (HX1.out.andQ (HOUTQ.out w6 HXG.out) (fun j hj => by have := HG1.out; omega)).trans HX7.out⟩
      · have HE := Lib.hid (HFAIL.out fun hB => h1 (HIFF.out.1 hB).1)
        have hne1 : (e1 != 0) = true := by simpa using h1
        clear h1
        go_wp2
        go_ret2
        rw [HE.out.1, HE.out.2]
        exact ⟨_, rfl, RE.nilS _, (HX1.out.andQ (HOUTQ.out w6 HXG.out) (fun j hj => by have := HG1.out; omega)).trans HX7.out⟩
set_option maxRecDepth 100000 in
set_option maxHeartbeats 4000000 in
theorem runp_any (v : Value) (b : List UInt8) (w : World) (hv : RB w v b) (hl : b.length ≤ 1000000) :
    Calls Try.prog 24 #[v] w fun e w' => ∃ u, e = .returned (.tuple #[u, .bool (un b).isSome]) ∧ RE w' u ((un b).getD []) ∧ Ext w w' := by
  have HNONE := Lib.hid (show un b = none → (un b).isSome = false ∧ (un b).getD [] = [] from fun h => by rw [h]; exact ⟨rfl, rfl⟩)
  have HSOME := Lib.hid (show ∀ l, un b = some l → (un b).isSome = true ∧ (un b).getD [] = l from fun l h => by rw [h]; exact ⟨rfl, rfl⟩)
  obtain ⟨A, c, rfl⟩ := RB.form hv
  have HBL := Lib.hid hl
  have HXL := Lib.hid ((Ext.refl w).alloc (.cells #[] 5))
  have HEL := Lib.hid (OB.emptyL w 5)
  have HV := Lib.hid (hv.ext HXL.out)
  generalize (un b).isSome = dE at *
  generalize (un b).getD [] = dL at *
  clear hl hv
  go_enter Try.func24, Try.ntmps24
  go_wp2_with (at_builtin; refine wpList_appBB rfl elemB w _ (.tmp 10) (.tmp 11) rfl _ [] rfl HEL.out HXL.out _ b rfl HV.out (by have := HBL.out; simp; omega) ?_; intro v7 w7 ho7 he7 hg7; rw [List.nil_append] at ho7; obtain ⟨A7, c7, rfl⟩ := ho7.form; have HO7 := Lib.hid ho7; have HE7 := Lib.hid he7; clear ho7 he7 hg7; obtain ⟨g, hg⟩ : ∃ g, w7.heap.size = g := ⟨_, rfl⟩)
  go_wp2
  have hr1 : Rdr (fun j => j < (w7.alloc (.cells #[.slice A7 b.length c7, .bool false] 79)).heap.size) 79 (w7.alloc (.cells #[.slice A7 b.length c7, .bool false] 79)) w7.heap.size b false := (Rdr.new HO7.out.rb _ _).weak (fun b hb => by simp; omega)
  have HX1 := Lib.hid (HE7.out.alloc (.cells #[.slice A7 b.length c7, .bool false] 79))
  have HG1 := Lib.hid (show w.heap.size ≤ w7.heap.size from HE7.out.size)
  rw [hg] at hr1 HG1
  try rw [hg]
  generalize w7.alloc (.cells #[.slice A7 b.length c7, .bool false] 79) = w1 at *
  have HR1 := Lib.hid hr1
  have HGW := Lib.hid (show g < w1.heap.size from hr1.lt)
  clear hr1 hg
  go_loopw [5] (fun o wr => ∃ (rest : List UInt8) (out : List Ent.E), UnR b out rest ∧ UnI (fun j => j < w1.heap.size) 79 w1 g rest out o wr) (fun o _ => b.length - slLen o)
  case atStart => exact ⟨b, [], UnR.start b, ⟨HR1.out, OE.nilS _ _ _, ExtQ.refl _ _, HGW.out, fun b hb => hb⟩⟩
  case round =>
    obtain ⟨rest, out, hR, hI⟩ := hrel
    rename World => wA
    have HI := Lib.hid hI
    have HR := Lib.hid hR
    obtain ⟨AO, cO, rfl⟩ := hI.own.re.form
    obtain ⟨m0, -, -⟩ := hI.nr.mark
    obtain ⟨A9, c9, -, y0, -, -, -⟩ := hI.nr.open_
    have HLEN := Lib.hid hR.len
    clear hI hR
    by_cases hne : rest = []
    · have HD := Lib.hid (HSOME.out out (by have h := HR.out; rw [hne] at h; exact h.done))
      have g2 : ¬ (0 : Int) < (rest.length : Int) := by rw [hne]; simp
      clear hne
      go_wp2
      go_ret2
      rw [HD.out.1, HD.out.2]
      exact ⟨_, rfl, HI.out.own.re, HX1.out.andQ HI.out.ext fun j hj => by have := HG1.out; omega⟩
    · have g2 : (0 : Int) < (rest.length : Int) := by have := List.length_pos_iff.2 hne; omega
      have HNE := Lib.hid hne
      have HRL := Lib.hid (show rest.length ≤ 1000000 by have := HLEN.out; have := HBL.out; omega)
      have HRD := Lib.hid (Mo.rread_any g ⟨rest, false⟩ wA HI.out.nr HRL.out HI.out.hK)
      have HRD2 := Lib.hid (fun w h => rread_any (K := fun j => j < w1.heap.size) g (Mo.readS ⟨rest, false⟩) w h (Nat.le_trans (mom_len ⟨rest, false⟩) HRL.out))
      have HFAIL := Lib.hid (fun hB => HNONE.out (HR.out.fail hne hB))
      have HSTEP := Lib.hid (fun hB => HR.out.step hB)
      have HST := Lib.hid (fun hB => @un_st ⟨rest, false⟩ hB)
      have HIFF := Lib.hid (show unB ⟨rest, false⟩ ↔ Mo.readE ⟨rest, false⟩ = 0 ∧ Rec.readE (Mo.readS ⟨rest, false⟩) = 0 by unfold unB; exact Iff.rfl)
      have HUV := Lib.hid (show unV ⟨rest, false⟩ = (Mo.readV ⟨rest, false⟩, Rec.readV (Mo.readS ⟨rest, false⟩)) by unfold unV; rfl)
      have HUS := Lib.hid (show Rec.readS (Mo.readS ⟨rest, false⟩) = unS ⟨rest, false⟩ by unfold unS; rfl)
      have HSTP := Lib.hid (fun (rest' : List UInt8) (out' : List Ent.E) (w2 w3 w4 : World) (o' : Value) he2 hr2 he3 ha ho => HI.out.step (rest' := rest') (out' := out') (w2 := w2) (w3 := w3) (w4 := w4) (o' := o') he2 hr2 he3 ha ho)
      have HOWN := Lib.hid (fun (w2 : World) he => HI.out.own2 (w2 := w2) he)
      have HOUTQ := Lib.hid (fun (w2 : World) he => HI.out.outQ (w2 := w2) he)
      have HSA := Lib.hid (show w1.heap.size ≤ wA.heap.size from HI.out.ext.size)
      unfold Mo.ReadPost at HRD
      unfold ReadPost at HRD2
      rw [HUV.out] at HSTEP
      rw [HUS.out] at HRD2
      generalize unB ⟨rest, false⟩ = bq at *
      generalize unS ⟨rest, false⟩ = s2 at *
      generalize Mo.readE ⟨rest, false⟩ = e1 at *
      generalize Mo.readV ⟨rest, false⟩ = m at *
      generalize Mo.readS ⟨rest, false⟩ = s1 at *
      generalize Rec.readE s1 = e2 at *
      generalize Rec.readV s1 = x at *
      obtain ⟨m1, m2⟩ := m
      obtain ⟨x1, x2⟩ := x
      clear hne HR HUV HUS
      go_wp2_with fail
      refine HRD.out.mono ?_
      rintro e w4 ⟨rfl, hx4⟩
      have HX4 := Lib.hid hx4
      clear hx4
      obtain ⟨q4, hq4⟩ : ∃ q, w4.heap.size = q := ⟨_, rfl⟩
      have B4 := Blk.new w4 24 #[.int .i64 m1, .int .i64 m2]
      have HX5 := Lib.hid ((Ext.refl w4).alloc (.cells #[.int .i64 m1, .int .i64 m2] 24))
      have hqg : g < w4.heap.size := HX4.out.rdr.lt
      go_upto_region 5 with fail
      try rw [hq4]
      rw [hq4] at B4 hqg
      generalize w4.alloc (.cells #[.int .i64 m1, .int .i64 m2] 24) = w5 at *
      have HB4 := Lib.hid B4
      have HQG := Lib.hid (show q4 ≠ g by omega)
      have HRD3 := Lib.hid (HRD2.out w5 (HX4.out.rdr.ext HX5.out) (fun b hb => by have h1 := HSA.out; have h2 := HX4.out.extG.size; have h3 := HX5.out.size; omega))
      clear B4 hq4 hqg HRD2
      go_wp2_with fail
      refine HRD3.out.mono ?_
      rintro e w6 ⟨rfl, hx6⟩
      have HX6 := Lib.hid hx6
      clear hx6
      obtain ⟨q6, hq6⟩ : ∃ q, w6.heap.size = q := ⟨_, rfl⟩
      have B6 := Blk.new w6 26 #[.int .i64 x1, .int .i64 x2]
      have HX7 := Lib.hid ((Ext.refl w6).alloc (.cells #[.int .i64 x1, .int .i64 x2] 26))
      have B4 := (HB4.out.extG HX6.out.extG HQG.out).ext HX7.out
      go_upto_region 6 with fail
      try rw [hq6]
      rw [hq6] at B6
      generalize w6.alloc (.cells #[.int .i64 x1, .int .i64 x2] 26) = w7 at *
      have c0 : w7.cell? ⟨q4, 0, none⟩ = some (.int .i64 m1) := B4.cell 0
      have c1 : w7.cell? ⟨q4, 1, none⟩ = some (.int .i64 m2) := B4.cell 1
      have d0 : w7.cell? ⟨q6, 0, none⟩ = some (.int .i64 x1) := B6.cell 0
      have d1 : w7.cell? ⟨q6, 1, none⟩ = some (.int .i64 x2) := B6.cell 1
      have HXG := Lib.hid ((HX4.out.extG.trans (ExtG.of HX5.out)).trans HX6.out.extG)
      clear B4 B6 hq6
      by_cases h1 : e1 = 0
      · subst h1
        by_cases h2 : e2 = 0
        · subst h2
          have hB : bq := HIFF.out.2 ⟨rfl, rfl⟩
          have HU := Lib.hid (HSTEP.out hB)
          have HS2 := Lib.hid (HST.out hB)
          have HR6 := Lib.hid (show Rdr (fun j => j < w1.heap.size) 79 w6 g s2.l false by have h := HX6.out.rdr; rw [HS2.out] at h; exact h)
          have HOUT := Lib.hid (show out.length ≤ 1000000 by have := HLEN.out; have := HBL.out; omega)
          have HOL := Lib.hid (((HOWN.out w6 HXG.out).ext HX7.out).ext ((Ext.refl w7).alloc (.cells #[.int .i64 m1, .int .i64 m2, .int .i64 x1, .int .i64 x2] 28)))
          have HLIT := Lib.hid (RE.lit w7 #[.int .i64 m1, .int .i64 m2, .int .i64 x1, .int .i64 x2] 28 1 [(((m1, m2), x1, x2) : Ent.E)] rfl (by omega) rfl)
          have HSZ := Lib.hid (show w1.heap.size ≤ w7.heap.size from Nat.le_trans (Nat.le_trans HSA.out HXG.out.size) HX7.out.size)
          clear hB
          go_wp2_with (at_builtin; refine wpList_app rfl elemE _ _ _ rfl w1.heap.size _ out.length _ rfl HOL.out.own _ 1 _ rfl HLIT.out.rd (one_eV _) (by have := HOUT.out; omega) (by have := HOUT.out; unfold maxLen; omega) (by have := HSZ.out; simp; omega) ?_; intro v9 w9 ha)
          have ho9 := OE.app (l := out) (r := [(((m1, m2), x1, x2) : Ent.E)]) ha.own
          obtain ⟨A9, c9, hv9⟩ := ho9.re.form
          exact ⟨⟨s2.l, _, HU.out, HSTP.out _ _ w6 _ w9 v9 HXG.out HR6.out (HX7.out.trans ((Ext.refl w7).alloc _)) ha.grown ho9⟩, by have h3 := HU.out.len; rw [hv9]; simp only [slLen, List.length_append, List.length_singleton] at h3 ⊢; have := HLEN.out; have := List.length_pos_iff.2 HNE.out; omega⟩
        · have HE := Lib.hid (HFAIL.out fun hB => h2 (HIFF.out.1 hB).2)
          have hne2 : (e2 != 0) = true := by simpa using h2
          clear h2
          go_wp2
          go_ret2
          rw [HE.out.1, HE.out.2]
          exact ⟨_, rfl, RE.nilS _, (HX1.out.andQ (HOUTQ.out w6 HXG.out) (fun j hj => by have := HG1.out; omega)).trans HX7.out⟩
      · have HE := Lib.hid (HFAIL.out fun hB => h1 (HIFF.out.1 hB).1)
        have hne1 : (e1 != 0) = true := by simpa using h1
        clear h1
        go_wp2
        go_ret2
        rw [HE.out.1, HE.out.2]
        exact ⟨_, rfl, RE.nilS _, (HX1.out.andQ (HOUTQ.out w6 HXG.out) (fun j hj => by have := HG1.out; omega)).trans HX7.out⟩
end Go.Proofs.Ytacpomonidmjaaa
