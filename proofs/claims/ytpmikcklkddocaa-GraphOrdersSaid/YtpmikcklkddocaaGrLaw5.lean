/-
  Layer 17: GraphOrders.
-/
import Derived.BigRegion
import Derived.Deep.RegionWith
import Derived.Deep.DeepCutAuto
import Derived.Test.YtpmikcklkddocaaGrLives
import Derived.Test.YtpmikcklkddocaaGrArgs
import Derived.Test.YtpmikcklkddocaaGrOrd
namespace Go.Proofs.Ytpmikcklkddocaa
open Go.RowKit Go.Ox Go.Ox.Gr
set_option linter.unusedVariables false
set_option linter.unusedSimpArgs false
theorem gPl_len (g : G) : (gPl g).length ≤ 10100 := by
  obtain ⟨l, out⟩ := g
  cases hok : gOk (l, out) with
  | false =>
    have : gPl (l, out) = [] := by unfold gPl; rw [if_neg (by rw [hok]; simp)]
    rw [this]; simp
  | true =>
    have e : gPl (l, out) = places l := by unfold gPl; rw [if_pos hok]
    have h := places_len l l.length (body_le hok).2 (body_le hok).1
    rw [List.take_length] at h
    rw [e]; exact h
attribute [local irreducible] RE OE NodesR RB OB
set_option maxRecDepth 100000 in
set_option maxHeartbeats 4000000 in
theorem graphOrders_large (d : Nat) (v : Value) (g : G) (w : World) (hv : NodesR d w v g.1) (hl : largeB g.1 = true) :
    Calls Try.prog 7 #[gAg v g.2] w fun e w' => e = .returned (.bool true) ∧ Ext w w' := by
  obtain ⟨l, out⟩ := g
  dsimp only at hv hl ⊢
  obtain ⟨A, c, rfl⟩ := hv.form
  have HL := Lib.hid lives_any
  have HX := Lib.hid ((Ext.refl w).alloc (gCs (.slice A l.length c) out))
  have HB := Lib.hid (Blk.new w 24 #[.slice A l.length c, .int .i64 out])
  have HV := Lib.hid (hv.ext HX.out)
  have HLG := Lib.hid (fun w h => large_any d (.slice A l.length c) l out w h)
  rw [hl] at HLG
  clear hv hl
  go_enter Try.func7, Try.ntmps7
  go_upto_region 1 with fail
  generalize w.heap.size = p at *
  generalize w.alloc (gCs (.slice A l.length c) out) = w0 at *
  have y0 : w0.cell? ⟨p, 0, none⟩ = some (.slice A l.length c) := HB.out.cell 0
  have y1 : w0.cell? ⟨p, 1, none⟩ = some (.int .i64 out) := HB.out.cell 1
  have HC := Lib.hid (HLG.out _ HV.out)
  go_wp2_with fail
  refine HC.out.mono ?_
  rintro e w1 ⟨rfl, he⟩
  replace HX := Lib.hid (HX.out.trans he)
  clear he y0 y1 HC
  go_wp2_with fail
  refine (HL.out _).mono ?_
  rintro e w2 ⟨rfl, he⟩
  replace HX := Lib.hid (HX.out.trans he)
  clear he
  go_wp2
  go_ret
  exact ⟨rfl, HX.out⟩
set_option maxRecDepth 100000 in
set_option maxHeartbeats 16000000 in
theorem graphOrders_small (d : Nat) (v : Value) (g : G) (w : World) (hv : NodesR d w v g.1) (hl : largeB g.1 = false) :
    Calls Try.prog 7 #[gAg v g.2] w fun e w' => e = .returned (.bool true) ∧ Ext w w' := by
  obtain ⟨l, out⟩ := g
  dsimp only at hv hl ⊢
  obtain ⟨A, c, rfl⟩ := hv.form
  have HL := Lib.hid lives_any
  have HX := Lib.hid ((Ext.refl w).alloc (gCs (.slice A l.length c) out))
  have HB := Lib.hid (Blk.new w 24 #[.slice A l.length c, .int .i64 out])
  have HV := Lib.hid (hv.ext HX.out)
  have HLG := Lib.hid (fun w h => large_any d (.slice A l.length c) l out w h)
  rw [hl] at HLG
  have HPL := Lib.hid (fun w h => gPlaces_any d (.slice A l.length c) (l, out) w h)
  have HND := Lib.hid (fun q w h => gNode_any d (.slice A l.length c) (l, out) q w h)
  have HUS := Lib.hid (fun q w h => gUsers_any d (.slice A l.length c) (l, out) q w h)
  have HUL := Lib.hid (fun q => gUs_len (l, out) q)
  have HPLN := Lib.hid (gPl_len (l, out))
  have HUW := Lib.hid (used_want (g := (l, out)))
  have HBH := Lib.hid (fun i hi x hx => users_behind (g := (l, out)) (i := i) hi (x := x) hx)
  have HWL := Lib.hid (fun p => want_le (g := (l, out)) (p := p))
  dsimp only at HPL HND HUS
  generalize gPl (l, out) = pl at *
  generalize gUs (l, out) = us at *
  generalize gNd (l, out) = nd at *
  clear hv hl
  go_enter Try.func7, Try.ntmps7
  go_upto_region 1 with fail
  generalize w.heap.size = p at *
  generalize w.alloc (gCs (.slice A l.length c) out) = w0 at *
  have y0 : w0.cell? ⟨p, 0, none⟩ = some (.slice A l.length c) := HB.out.cell 0
  have y1 : w0.cell? ⟨p, 1, none⟩ = some (.int .i64 out) := HB.out.cell 1
  have HC := Lib.hid (HLG.out _ HV.out)
  go_wp2_with fail
  refine HC.out.mono ?_
  rintro e w1 ⟨rfl, he⟩
  replace HX := Lib.hid (HX.out.trans he)
  replace HV := Lib.hid (HV.out.ext he)
  replace HB := Lib.hid (HB.out.ext he)
  clear he y0 y1 HC HLG
  have y0 : w1.cell? ⟨p, 0, none⟩ = some (.slice A l.length c) := HB.out.cell 0
  have y1 : w1.cell? ⟨p, 1, none⟩ = some (.int .i64 out) := HB.out.cell 1
  have HC := Lib.hid (HPL.out _ HV.out)
  go_wp2_with fail
  refine HC.out.mono ?_
  rintro e w2 ⟨u2, rfl, hu2, he⟩
  obtain ⟨A2, c2, rfl⟩ := hu2.form
  have H2 := Lib.hid hu2
  replace HX := Lib.hid (HX.out.trans he)
  replace HV := Lib.hid (HV.out.ext he)
  replace HB := Lib.hid (HB.out.ext he)
  clear he y0 y1 HC hu2 HPL
  go_wp2
  go_loopw [4, 5] (fun uv iv wr => ∃ i : Nat, i ≤ pl.length ∧ iv = .int .i64 (i : Int) ∧ uv = .int .i64 ((tot (fun q => (us q).length) (pl.take i) : Nat) : Int) ∧ Ext w2 wr) (fun _ iv _ => pl.length - (intOf iv).toNat)
  case atStart => exact ⟨0, Nat.zero_le _, rfl, rfl, Ext.refl _⟩
  case round =>
    obtain ⟨i, hi, rfl, rfl, hext⟩ := hrel
    have HE := Lib.hid hext
    have hi2 : i ≤ 10100 := by have := HPLN.out; omega
    have hT : tot (fun q => (us q).length) (pl.take i) ≤ 10100000000 := by
      have h1 := tot_le (fun q => (us q).length) 1000000 (pl.take i) fun q _ => HUL.out q
      have h2 : (pl.take i).length ≤ 10100 := by rw [List.length_take]; omega
      have h3 : (pl.take i).length * 1000000 ≤ 10100 * 1000000 := Nat.mul_le_mul_right _ h2
      omega
    by_cases hlt : i < pl.length
    · have q1 : (i : Int) < (pl.length : Int) := by omega
      have q0 : 0 ≤ (i : Int) := by omega
      have q1n : i < pl.length := hlt
      have HLT := Lib.hid hlt
      obtain ⟨bP, oP, rfl, g0, g1⟩ := rp2 (H2.out.ext hext) hlt
      have HS := Lib.hid (tot_s (fun q => (us q).length) pl hlt)
      have HBI := Lib.hid (HBH.out i hlt)
      generalize pl[i] = q at *
      have HULQ := Lib.hid (HUL.out q)
      have HUC := Lib.hid (fun W (hW : Ext wr W) => HUS.out q W ((HV.out.ext hext).ext hW))
      generalize us q = uq at *
      generalize tot (fun q => (us q).length) (pl.take i) = T at *
      have y0 : wr.cell? ⟨p, 0, none⟩ = some (.slice A l.length c) := (HB.out.ext hext).cell 0
      have y1 : wr.cell? ⟨p, 1, none⟩ = some (.int .i64 out) := (HB.out.ext hext).cell 1
      clear hext hlt hi
      go_upto_region 8 with fail
      go_cut [6] (fun s6 wx => ∃ A6 c6, s6 = .slice A6 uq.length c6 ∧ RE wx (.slice A6 uq.length c6) uq ∧ Ext wr wx)
      case first =>
        clear HL HX HV HB HND HUS HUL HPLN HUW HBH HWL H2 HE HS HBI HULQ HLT
        go_region_with (go_at_call 17; refine (HUC.out _ (by repeat (first | exact Ext.refl _ | refine Ext.drew ?_ | refine Ext.alloc ?_ _))).mono ?_; rintro e w5 ⟨u5, rfl, hu5, he5⟩; obtain ⟨A5, c5, rfl⟩ := hu5.form)
        all_goals go_wp2
        all_goals go_meet
        all_goals exact ⟨_, _, rfl, hu5, (by first | exact he5 | exact (Ext.refl wr).drew.trans he5)⟩
      case rest =>
      obtain ⟨A6, c6, rfl, hu6, hx6⟩ := hcut
      rename World => w6
      have H6 := Lib.hid hu6
      have HX6 := Lib.hid (HE.out.trans hx6)
      have hul : uq.length ≤ 1000000 := HULQ.out
      clear hu6 hx6 y0 y1 g0 g1
      go_wp2
      go_loopw [7] (fun kv wq => ∃ k : Nat, k ≤ uq.length ∧ kv = .int .i64 (k : Int) ∧ Ext w6 wq) (fun kv _ => uq.length - (intOf kv).toNat)
      case atStart => exact ⟨0, Nat.zero_le _, rfl, Ext.refl _⟩
      case round =>
        obtain ⟨k, hk, rfl, hxq⟩ := hrel
        have HXQ := Lib.hid hxq
        have hk2 : k ≤ 1000000 := by omega
        by_cases hkl : k < uq.length
        · have r1 : (k : Int) < (uq.length : Int) := by omega
          have r0 : 0 ≤ (k : Int) := by omega
          have r1n : k < uq.length := hkl
          have HKL := Lib.hid hkl
          obtain ⟨bU, oU, rfl, x0, x1, x2⟩ := rp3 (H6.out.ext hxq) hkl
          have HB1 := Lib.hid (HBI.out uq[k] (List.getElem_mem hkl))
          generalize uq[k] = z at *
          obtain ⟨⟨z1, z2⟩, z3⟩ := z
          dsimp only at x0 x1 x2 HB1
          have HC := Lib.hid (place_any (.slice (some ⟨bP, oP, none⟩) pl.length c2) pl z1 z2 _ ((H2.out.ext HX6.out).ext hxq) (by have := HPLN.out; omega))
          clear hxq hkl hk
          go_wp2_with fail
          refine HC.out.mono ?_
          rintro e wz ⟨rfl, hez⟩
          have hnl : ¬ posFrom (z1, z2) pl 0 ≤ (i : Int) := by have := HB1.out; omega
          have HXZ := Lib.hid (HXQ.out.trans hez)
          clear hez HC x0 x1 x2
          generalize posFrom (z1, z2) pl 0 = ps at *
          go_wp2
          exact ⟨⟨k + 1, HKL.out, by go_num, HXZ.out⟩, by have := HKL.out; simp [intOf]; omega⟩
        · obtain rfl : k = uq.length := by omega
          have r1 : ¬ (uq.length : Int) < (uq.length : Int) := by omega
          clear hxq hkl hk
          go_wp2
          exact ⟨⟨i + 1, HLT.out, by go_num, by rw [HS.out]; go_num, HX6.out.trans HXQ.out⟩, by have := HLT.out; simp [intOf]; omega⟩
    · obtain rfl : i = pl.length := by omega
      have q1 : ¬ (pl.length : Int) < (pl.length : Int) := by omega
      rw [List.take_length, HUW.out]
      rw [List.take_length, HUW.out] at hT
      have HX3 := Lib.hid (HX.out.trans hext)
      replace HV := Lib.hid (HV.out.ext hext)
      replace HB := Lib.hid (HB.out.ext hext)
      replace H2 := Lib.hid (H2.out.ext hext)
      clear hext hlt hi HBH HUS HUL
      go_wp2
      go_loopw [8, 9] (fun uv jv wq => ∃ j : Nat, j ≤ pl.length ∧ jv = .int .i64 (j : Int) ∧ uv = .int .i64 ((tot (fun q => wantN ((nd q).getD default)) (pl.take j) : Nat) : Int) ∧ Ext wr wq) (fun _ jv _ => pl.length - (intOf jv).toNat)
      case atStart => exact ⟨0, Nat.zero_le _, rfl, rfl, Ext.refl _⟩
      case round =>
        obtain ⟨j, hj, rfl, rfl, hxq⟩ := hrel
        have HXQ := Lib.hid hxq
        have hj2 : j ≤ 10100 := by have := HPLN.out; omega
        have hW : tot (fun q => wantN ((nd q).getD default)) (pl.take j) ≤ 1010000 := by
          have h1 := tot_le (fun q => wantN ((nd q).getD default)) 100 (pl.take j) fun q _ => HWL.out q
          have h2 : (pl.take j).length ≤ 10100 := by rw [List.length_take]; omega
          have h3 : (pl.take j).length * 100 ≤ 10100 * 100 := Nat.mul_le_mul_right _ h2
          omega
        by_cases hjl : j < pl.length
        · have r1 : (j : Int) < (pl.length : Int) := by omega
          have r0 : 0 ≤ (j : Int) := by omega
          have r1n : j < pl.length := hjl
          have HJL := Lib.hid hjl
          obtain ⟨bP, oP, rfl, g0, g1⟩ := rp2 (H2.out.ext hxq) hjl
          have HS := Lib.hid (tot_s (fun q => wantN ((nd q).getD default)) pl hjl)
          generalize pl[j] = q at *
          have HUC := Lib.hid (fun W (hW : Ext wr W) => HND.out q W ((HV.out.ext hxq).ext hW))
          have HWQ := Lib.hid (HWL.out q)
          have HWE := Lib.hid (show wantN ((nd q).getD default) = ((nd q).getD default).ins.length + (if ((nd q).getD default).op = 11 then 1 else 0) from rfl)
          generalize tot (fun q => wantN ((nd q).getD default)) (pl.take j) = T at *
          generalize wantN ((nd q).getD default) = wn at *
          generalize (nd q).getD default = N at *
          generalize (nd q).isSome = has at *
          have y0 : wr.cell? ⟨p, 0, none⟩ = some (.slice A l.length c) := (HB.out.ext hxq).cell 0
          have y1 : wr.cell? ⟨p, 1, none⟩ = some (.int .i64 out) := (HB.out.ext hxq).cell 1
          have hA := World.block_lt_of_cell? wr _ y0
          have hP := World.block_lt_of_cell? wr _ g0
          simp only at hA hP
          have hA1 : ¬ p = wr.heap.size := by omega
          have hP1 : ¬ bP = wr.heap.size := by omega
          clear hxq hjl hj
          go_upto_region 19 with fail
          go_cut [10] (fun s10 wx => ∃ n10 Au cu Ab cb, s10 = .pointer (some ⟨n10, 0, none⟩) ∧ Bx6 wx n10 40 (.int .i64 N.op) (.slice Au N.ins.length cu) (.int .i64 N.kind) (.int .i64 N.fa) (.int .i64 N.a) (.slice Ab N.body.length cb) ∧ Ext wr wx)
          case first =>
            clear HL HX HV HB HND HPLN HUW HWL H2 HX3 HXQ HS HWQ HWE HJL
            go_region_with (go_at_call 16; refine (HUC.out _ (by repeat (first | exact Ext.refl _ | refine Ext.drew ?_ | refine Ext.alloc ?_ _))).mono ?_; rintro e w5 ⟨u5, b5, rfl, hu5, hb5, he5⟩; obtain ⟨A5, c5, rfl⟩ := hu5.form; obtain ⟨B5, d5, rfl⟩ := hb5.form; try (have HBN := Lib.hid (((Bx6.new wr 40 (.int .i64 0) (.slice none 0 0) (.int .i64 0) (.int .i64 0) (.int .i64 0) (.slice none 0 0)).ext (Ext.refl _).drew).ext he5); obtain ⟨b0, b1, b2, b3, b4, b5⟩ := HBN.out.at_; have f0 : w5.frozen? ⟨wr.heap.size, 0, none⟩ = false := HBN.out.b.frozen 0; have f1 : w5.frozen? ⟨wr.heap.size, 1, none⟩ = false := HBN.out.b.frozen 1; have f2 : w5.frozen? ⟨wr.heap.size, 2, none⟩ = false := HBN.out.b.frozen 2; have f3 : w5.frozen? ⟨wr.heap.size, 3, none⟩ = false := HBN.out.b.frozen 3; have f4 : w5.frozen? ⟨wr.heap.size, 4, none⟩ = false := HBN.out.b.frozen 4; have f5 : w5.frozen? ⟨wr.heap.size, 5, none⟩ = false := HBN.out.b.frozen 5))
            all_goals go_wp2
            all_goals go_meet
            all_goals first
              | exact ⟨_, _, _, _, _, rfl, HBN.out.fill (.int .i64 N.op) (.slice A5 N.ins.length c5) (.int .i64 N.kind) (.int .i64 N.fa) (.int .i64 N.a) (.slice B5 N.body.length d5), (((Ext.refl wr).alloc _).drew.trans he5).andQ (extQ6 (ExtQ.refl (fun k => k = wr.heap.size) w5) (q := wr.heap.size) rfl (.int .i64 N.op) (.slice A5 N.ins.length c5) (.int .i64 N.kind) (.int .i64 N.fa) (.int .i64 N.a) (.slice B5 N.body.length d5)) (fun k hk => by omega)⟩
              | exact ⟨_, _, _, _, _, rfl, Bx6.new w5 40 (.int .i64 N.op) (.slice A5 N.ins.length c5) (.int .i64 N.kind) (.int .i64 N.fa) (.int .i64 N.a) (.slice B5 N.body.length d5), ((Ext.refl wr).drew.trans he5).alloc _⟩
          case rest =>
          obtain ⟨n10, Au, cu, Ab, cb, rfl, hb10, hx10⟩ := hcut
          rename World => w10
          have HX10 := Lib.hid (HXQ.out.trans hx10)
          obtain ⟨z0, z1, z2, z3, z4, z5⟩ := hb10.at_
          have hil : N.ins.length ≤ 100 := by have h1 := HWQ.out; have h2 := HWE.out; omega
          clear hb10 hx10 y0 y1 g0 g1 hA hP hA1 hP1
          generalize N.ins.length = il at *
          by_cases h11 : N.op = 11
          · rw [if_pos h11] at HWE
            rw [h11] at z0
            clear h11
            go_wp2
            exact ⟨⟨j + 1, HJL.out, by go_num, by rw [HS.out, HWE.out]; go_num, HX10.out⟩, by have := HJL.out; simp [intOf]; omega⟩
          · rw [if_neg h11] at HWE
            have hb : (N.op == 11) = false := by simpa using h11
            clear h11
            go_wp2
            exact ⟨⟨j + 1, HJL.out, by go_num, by rw [HS.out, HWE.out]; go_num, HX10.out⟩, by have := HJL.out; simp [intOf]; omega⟩
        · obtain rfl : j = pl.length := by omega
          have r1 : ¬ (pl.length : Int) < (pl.length : Int) := by omega
          rw [List.take_length]
          have HXF := Lib.hid (HX3.out.trans hxq)
          clear hxq hjl hj
          generalize tot (fun q => wantN ((nd q).getD default)) pl = T at *
          go_wp2_with fail
          refine (HL.out _).mono ?_
          rintro e wz ⟨rfl, hez⟩
          replace HXF := Lib.hid (HXF.out.trans hez)
          clear hez
          go_wp2
          go_ret
          exact ⟨rfl, HXF.out⟩
theorem graphOrders_law (w : World) (v : Value) (x : GArg) (hv : v = gAg x.1.1 x.2.2 ∧ NodesR x.1.2 w x.1.1 x.2.1) :
    Calls Try.prog 7 #[v] w fun e w' => e = .returned (.bool true) ∧ Ext w w' := by
  rw [hv.1]
  cases h : largeB x.2.1 with
  | true => exact graphOrders_large x.1.2 x.1.1 x.2 w hv.2 h
  | false => exact graphOrders_small x.1.2 x.1.1 x.2 w hv.2 h
end Go.Proofs.Ytpmikcklkddocaa
