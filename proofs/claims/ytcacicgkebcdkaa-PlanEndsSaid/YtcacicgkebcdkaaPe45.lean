/-
  PlEndsL, packed: what the claim needs of them.
-/
import Derived.Test.YtcacicgkebcdkaaPe39
import Derived.Test.YtcacicgkebcdkaaPe40
import Derived.Test.YtcacicgkebcdkaaPe44
import Derived.Test.YtcacicgkebcdkaaPe38
import Derived.BigRegion
set_option linter.unusedSimpArgs false
set_option linter.unusedVariables false
set_option maxRecDepth 100000
namespace Go.Proofs.Ytcacicgkebcdkaa
open Go.RowKit Go.Ox Go.Ox.Gr Mo
attribute [local irreducible] RE OE NodesR
set_option maxHeartbeats 40000000 in
theorem planEnds_any (d : Nat) (v : Value) (g : G) (w : World) (hv : NodesR d w v g.1) :
    Calls Try.prog 5 #[gAg v g.2] w fun e w' => e = .returned (.bool true) ∧ Ext w w' := by
  have HLG := Lib.hid (fun W (h : Ext w W) => large20_any d v g W (hv.ext h))
  have HWY := Lib.hid (fun (h : Pl.large g = false) p q (hp : p ∈ gPl g) (hq : q ∈ gPl g) W (hW : Ext w W) => (show Calls Try.prog 18 #[gAg v g.2, plV p, plV q] W fun e w' => e = .returned (.tuple #[wV ((Pl.wayM g p q).getD (false, 0)), .bool (Pl.wayM g p q).isSome]) ∧ Ext W w' from by
    rw [← Pl.wayO_pl hp hq]; exact way_any d v g p q W (hv.ext hW) (Pl.large_no h)))
  have HCK := Lib.hid (fun W (h : Ext w W) => rCheck_any d v g.1 g.2 W (hv.ext h))
  have HLO := Lib.hid (fun (hok : gOk g = true) W (h : Ext w W) => rLoop_any d v g.1 g.2 W (hv.ext h) (by have := gOk_len hok; omega))
  have HPL := Lib.hid (fun (hok : gOk g = true) W (h : Ext w W) => (show Calls Try.prog 17 #[gAg v g.2] W fun e w' => ∃ u, e = .returned u ∧ OE 26 W.heap.size w' u (gPl g) ∧ Ext W w' from by
    have hpl : gPl g = places g.1 := by unfold gPl; rw [if_pos hok]
    rw [hpl]
    exact rPlaces_any d v g.1 g.2 W (hv.ext h) (body_le (l := g.1) (out := g.2) hok).1 (body_le (l := g.1) (out := g.2) hok).2))
  have HN := Lib.hid (fun (h : Pl.large g = false) => Pl.large_no h)
  have HND := Lib.hid (Pl.gPl_nodup g)
  have HSE := Lib.hid (fun (h : Pl.large g = false) p (hp : p ∈ gPl g) => Pl.way_self (Pl.large_no h) hp)
  have HCY := Lib.hid (fun (h : Pl.large g = false) p q (hp : p ∈ gPl g) (hq : q ∈ gPl g) x y h1 h2 hne => Pl.ends_cyc (Pl.large_no h) hp hq (x := x) (y := y) h1 h2 hne)
  have HOU := Lib.hid (fun (h : Pl.large g = false) p q (hp : p ∈ gPl g) x h1 h2 h3 => Pl.ends_out (Pl.large_no h) hp (q := q) (x := x) h1 h2 h3)
  have HIN := Lib.hid (fun (h : Pl.large g = false) p q (hp : p ∈ gPl g) x h1 h2 h3 h4 => Pl.ends_in (Pl.large_no h) hp (q := q) (x := x) h1 h2 h3 h4)
  obtain ⟨l, out⟩ := g
  simp only at HCK HLO HPL hv HOU
  generalize Pl.large (l, out) = LG at *
  generalize Pl.wayM (l, out) = WM at *
  generalize gPl (l, out) = PL at *
  generalize gOk (l, out) = ok at *
  generalize loopAt l = la at *
  obtain ⟨A, c, rfl⟩ := hv.form
  have HX := Lib.hid (show Ext w (w.alloc (.cells #[.slice A l.length c, .int .i64 out] 24)) from allocs_ext [(#[.slice A l.length c, .int .i64 out], 24)] w)
  have HB0 := Lib.hid (show Blk (w.alloc (.cells #[.slice A l.length c, .int .i64 out] 24)) (w.heap.size) 24 #[.slice A l.length c, .int .i64 out] from allocs_at [(#[.slice A l.length c, .int .i64 out], 24)] w 0 _ _ rfl)
  clear hv
  go_enter Try.func5, Try.ntmps5
  go_upto_region 1 with fail
  generalize w.heap.size = bn at *
  generalize w.alloc (.cells #[.slice A l.length c, .int .i64 out] 24) = w0 at *
  have c00 : w0.cell? ⟨bn, 0, none⟩ = some (.slice A l.length c) := HB0.out.cell 0
  have c01 : w0.cell? ⟨bn, 1, none⟩ = some (.int .i64 out) := HB0.out.cell 1
  go_wp2_with fail
  refine (HLG.out w0 HX.out).mono ?_
  rintro e w1 ⟨rfl, he⟩
  clear c00 c01
  have HX := Lib.hid (HX.out.trans he)
  have HB0 := Lib.hid (HB0.out.ext he)
  clear he
  have c00 : w1.cell? ⟨bn, 0, none⟩ = some (.slice A l.length c) := HB0.out.cell 0
  have c01 : w1.cell? ⟨bn, 1, none⟩ = some (.int .i64 out) := HB0.out.cell 1
  cases LG with
  | true =>
    go_wp2_with fail
    refine (lives20_any w1).mono ?_
    rintro e w2 ⟨rfl, he⟩
    have HX := Lib.hid (HX.out.trans he)
    clear he
    go_wp2
    go_ret
    exact ⟨rfl, HX.out⟩
  | false =>
  go_wp2_with fail
  refine (HCK.out w1 HX.out).mono ?_
  rintro e w2 ⟨rfl, he⟩
  clear c00 c01
  have HX := Lib.hid (HX.out.trans he)
  have HB0 := Lib.hid (HB0.out.ext he)
  clear he
  cases ok with
  | false =>
    go_wp2_with fail
    refine (lives20_any w2).mono ?_
    rintro e w3 ⟨rfl, he⟩
    have HX := Lib.hid (HX.out.trans he)
    clear he
    go_wp2
    go_ret
    exact ⟨rfl, HX.out⟩
  | true =>
  have HL9 := Lib.hid (HLO.out (by first | rfl | trivial))
  have HP9 := Lib.hid (HPL.out (by first | rfl | trivial))
  have HN9 := Lib.hid (HN.out (by first | rfl | trivial))
  have c00 : w2.cell? ⟨bn, 0, none⟩ = some (.slice A l.length c) := HB0.out.cell 0
  have c01 : w2.cell? ⟨bn, 1, none⟩ = some (.int .i64 out) := HB0.out.cell 1
  go_wp2_with fail
  refine (HL9.out w2 HX.out).mono ?_
  rintro e w3 ⟨rfl, he⟩
  clear c00 c01
  have HX := Lib.hid (HX.out.trans he)
  have HB0 := Lib.hid (HB0.out.ext he)
  clear he
  have c00 : w3.cell? ⟨bn, 0, none⟩ = some (.slice A l.length c) := HB0.out.cell 0
  have c01 : w3.cell? ⟨bn, 1, none⟩ = some (.int .i64 out) := HB0.out.cell 1
  go_wp2_with fail
  refine (HP9.out w3 HX.out).mono ?_
  rintro e w4 ⟨ul, rfl, hul, he⟩
  obtain ⟨AL, cL, rfl⟩ := hul.re.form
  have HL := Lib.hid hul.re
  clear hul
  clear c00 c01
  have HX := Lib.hid (HX.out.trans he)
  have HB0 := Lib.hid (HB0.out.ext he)
  clear he
  have hn20 : PL.length ≤ 20 := HN9.out
  clear HL9 HP9 HLO HPL HCK HLG
  go_wp2
  go_loopw [5] (fun iv wr => ∃ i : Nat, i ≤ PL.length ∧ iv = .int .i64 (i : Int) ∧ Ext w4 wr) (fun iv _ => PL.length - (intOf iv).toNat)
  case atStart => exact ⟨0, Nat.zero_le _, rfl, Ext.refl _⟩
  case round =>
    obtain ⟨i, hi, rfl, hext⟩ := hrel
    rename World => w5
    have HE5 := Lib.hid hext
    have hi20 : i ≤ 20 := by omega
    by_cases hlt : i < PL.length
    · have r1 : (i : Int) < (PL.length : Int) := by omega
      have r0 : 0 ≤ (i : Int) := by omega
      have HLT := Lib.hid hlt
      clear hext hi hlt
      go_wp2
      go_loopw [6] (fun kv wr => ∃ k : Nat, k ≤ PL.length ∧ kv = .int .i64 (k : Int) ∧ Ext w4 wr) (fun kv _ => PL.length - (intOf kv).toNat)
      case atStart => exact ⟨0, Nat.zero_le _, rfl, HE5.out⟩
      case round =>
        obtain ⟨k, hk, rfl, hext⟩ := hrel
        rename World => wr
        have HE := Lib.hid hext
        have hk20 : k ≤ 20 := by omega
        by_cases hkl : k < PL.length
        · have r2 : (k : Int) < (PL.length : Int) := by omega
          have r20 : 0 ≤ (k : Int) := by omega
          have HKL := Lib.hid hkl
          have hil := HLT.out
          obtain ⟨bL, oL, hAL, y0, y1⟩ := rp2 (HL.out.ext hext) hil
          obtain ⟨bL', oL', hAL', z0, z1⟩ := rp2 (HL.out.ext hext) hkl
          rw [hAL] at hAL'
          injection hAL' with hAL'
          injection hAL' with q1 q2 _
          subst q1 q2
          obtain ⟨x, hx⟩ : ∃ x, PL[i] = x := ⟨_, rfl⟩
          obtain ⟨y, hy⟩ : ∃ y, PL[k] = y := ⟨_, rfl⟩
          have hxm : x ∈ PL := by rw [← hx]; exact List.getElem_mem hil
          have hym : y ∈ PL := by rw [← hy]; exact List.getElem_mem hkl
          replace y0 : wr.cell? ⟨bL, oL + i * 2, none⟩ = some (.int .i64 x.1) := by rw [← hx]; exact y0
          replace y1 : wr.cell? ⟨bL, oL + i * 2 + 1, none⟩ = some (.int .i64 x.2) := by rw [← hx]; exact y1
          replace z0 : wr.cell? ⟨bL, oL + k * 2, none⟩ = some (.int .i64 y.1) := by rw [← hy]; exact z0
          replace z1 : wr.cell? ⟨bL, oL + k * 2 + 1, none⟩ = some (.int .i64 y.2) := by rw [← hy]; exact z1
          have F1 := Lib.hid (show i = k → WM x y = some (false, 0) from fun e => by
            have : x = y := by subst e; exact hx.symm.trans hy
            rw [← this]; exact HSE.out (by first | rfl | trivial) x hxm)
          have F2 := Lib.hid (show ∀ a b, i ≠ k → WM x y = some a → WM y x = some b → 0 ≤ x.2 ∧ 0 ≤ y.2 from fun a b hne h1 h2 => HCY.out (by first | rfl | trivial) x y hxm hym a b h1 h2 fun e => hne (ndInj HND.out (hx.trans (e.trans hy.symm))))
          have F3 := Lib.hid (show ∀ a, WM x y = some a → x.2 < 0 → 0 ≤ y.2 → x.1 < la from fun a h1 h2 h3 => HOU.out (by first | rfl | trivial) x y hxm a h1 h2 h3)
          have F4 := Lib.hid (show ∀ a, WM x y = some a → 0 ≤ x.2 → 0 ≤ y.2 → y.2 < x.2 → 1 ≤ a.2 from fun a h1 h2 h3 h4 => HIN.out (by first | rfl | trivial) x y hxm a h1 h2 h3 h4)
          have HC1 := Lib.hid (fun W (hW : Ext wr W) => HWY.out (by first | rfl | trivial) x y hxm hym W ((HX.out.trans hext).trans hW))
          have HC2 := Lib.hid (fun W (hW : Ext wr W) => HWY.out (by first | rfl | trivial) y x hym hxm W ((HX.out.trans hext).trans hW))
          generalize WM x y = O1 at *
          generalize WM y x = O2 at *
          obtain ⟨s1, s2, hs⟩ : ∃ s1 s2, O1.getD (false, 0) = (s1, s2) := ⟨_, _, rfl⟩
          obtain ⟨u1, u2, hu⟩ : ∃ u1 u2, O2.getD (false, 0) = (u1, u2) := ⟨_, _, rfl⟩
          obtain ⟨is1, hi1⟩ : ∃ b, O1.isSome = b := ⟨_, rfl⟩
          obtain ⟨is2, hi2⟩ : ∃ b, O2.isSome = b := ⟨_, rfl⟩
          rw [hs, hi1] at HC1
          rw [hu, hi2] at HC2
          have G1 := Lib.hid (show i = k → is1 = true ∧ s1 = false ∧ s2 = 0 from fun e => by
            have := F1.out e; rw [this] at hs hi1; simp at hs hi1; obtain ⟨hs1, hs2⟩ := hs; exact ⟨by first | exact hi1 | exact hi1.symm, by first | exact hs1 | exact hs1.symm, by first | exact hs2 | exact hs2.symm⟩)
          have G2 := Lib.hid (show i ≠ k → is1 = true → is2 = true → 0 ≤ x.2 ∧ 0 ≤ y.2 from fun e h1 h2 => by
            cases hq1 : O1 with
            | none => rw [hq1] at hi1; rw [← hi1] at h1; cases h1
            | some a =>
              cases hq2 : O2 with
              | none => rw [hq2] at hi2; rw [← hi2] at h2; cases h2
              | some b => exact F2.out a b e hq1 hq2)
          have G3 := Lib.hid (show is1 = true → x.2 < 0 → 0 ≤ y.2 → x.1 < la from fun h1 h2 h3 => by
            cases hq1 : O1 with
            | none => rw [hq1] at hi1; rw [← hi1] at h1; cases h1
            | some a => exact F3.out a hq1 h2 h3)
          have G4 := Lib.hid (show is1 = true → 0 ≤ x.2 → 0 ≤ y.2 → y.2 < x.2 → 1 ≤ s2 from fun h1 h2 h3 h4 => by
            cases hq1 : O1 with
            | none => rw [hq1] at hi1; rw [← hi1] at h1; cases h1
            | some a => have := F4.out a hq1 h2 h3 h4; rw [hq1] at hs; simp only [Option.getD_some] at hs; rw [hs] at this; exact this)
          obtain ⟨x1, x2⟩ := x
          obtain ⟨y1', y2'⟩ := y
          simp only at y0 y1 z0 z1 G2 G3 G4
          subst hAL
          clear hs hu hi1 hi2 F1 F2 F3 F4 hx hy hxm hym hil hkl hk hext
          have g0 : wr.cell? ⟨bn, 0, none⟩ = some (.slice A l.length c) := (HB0.out.ext HE.out).cell 0
          have g1 : wr.cell? ⟨bn, 1, none⟩ = some (.int .i64 out) := (HB0.out.ext HE.out).cell 1
          have hA := World.block_lt_of_cell? wr _ g0
          have hP := World.block_lt_of_cell? wr _ y0
          simp only at hA hP
          have hA1 : ¬ bn = wr.heap.size := by omega
          have hP1 : ¬ bL = wr.heap.size := by omega
          go_upto_region 11 with fail
          go_cut [7, 8] (fun s7 s8 wx => ∃ n7, s7 = .pointer (some ⟨n7, 0, none⟩) ∧ s8 = .bool is1 ∧ Blk wx n7 37 #[.bool s1, .int .i64 s2] ∧ Ext wr wx)
          case first => as_aux_lemma =>
            clear HC2 G1 G2 G3 G4 HWY HN HND HSE HCY HOU HIN HX HB0 HL HE HE5 HLT HKL HN9
            go_region_with (go_at_call 18; refine (HC1.out _ (by repeat (first | exact Ext.refl _ | refine Ext.drew ?_ | refine Ext.alloc ?_ _))).mono ?_; rintro e w5 ⟨rfl, he5⟩; try (have HBN := Lib.hid (((Blk.new wr 37 #[.bool false, .int .i64 0]).ext (Ext.refl _).drew).ext he5); have b0 := HBN.out.cell 0; have b1 := HBN.out.cell 1; have f0 := HBN.out.frozen 0; have f1 := HBN.out.frozen 1; have t0 := fun u => (HBN.out.set_ 0 u).frozen 1; have t1 := fun u => (HBN.out.set_ 0 u).cell 1))
            all_goals go_wp2
            all_goals go_meet
            all_goals first
              | exact ⟨_, rfl, rfl, Blk.fill2 HBN.out (.bool s1) (.int .i64 s2), (res2 HBN.out (((Ext.refl wr).alloc _).drew.trans he5) (Nat.le_refl _) (.bool s1) (.int .i64 s2)).2.2⟩
              | exact ⟨_, rfl, rfl, Blk.new w5 37 #[.bool s1, .int .i64 s2], ((Ext.refl wr).drew.trans he5).alloc _⟩
          case rest =>
          obtain ⟨n7, rfl, rfl, hbn7, hxn7⟩ := hcut
          rename World => w6
          have HE6 := Lib.hid (HE.out.trans hxn7)
          have g0 := hxn7.cell g0
          have g1 := hxn7.cell g1
          have y0 := hxn7.cell y0
          have y1 := hxn7.cell y1
          have z0 := hxn7.cell z0
          have z1 := hxn7.cell z1
          have HC2 := Lib.hid (fun W (hW : Ext w6 W) => HC2.out W (hxn7.trans hW))
          have HB7 := Lib.hid hbn7
          clear hbn7 hxn7 hA hP hA1 hP1 HC1
          have hA := World.block_lt_of_cell? w6 _ g0
          have hP := World.block_lt_of_cell? w6 _ y0
          simp only at hA hP
          have hA1 : ¬ bn = w6.heap.size := by omega
          have hP1 : ¬ bL = w6.heap.size := by omega
          go_upto_region 12 with fail
          go_cut [9, 10] (fun s7 s8 wx => ∃ n7, s7 = .pointer (some ⟨n7, 0, none⟩) ∧ s8 = .bool is2 ∧ Blk wx n7 37 #[.bool u1, .int .i64 u2] ∧ Ext w6 wx)
          case first => as_aux_lemma =>
            clear G1 G2 G3 G4 HWY HN HND HSE HCY HOU HIN HX HB0 HL HE HE5 HLT HKL HN9 HE6 HB7
            go_region_with (go_at_call 18; refine (HC2.out _ (by repeat (first | exact Ext.refl _ | refine Ext.drew ?_ | refine Ext.alloc ?_ _))).mono ?_; rintro e w5 ⟨rfl, he5⟩; try (have HBN := Lib.hid (((Blk.new w6 37 #[.bool false, .int .i64 0]).ext (Ext.refl _).drew).ext he5); have b0 := HBN.out.cell 0; have b1 := HBN.out.cell 1; have f0 := HBN.out.frozen 0; have f1 := HBN.out.frozen 1; have t0 := fun u => (HBN.out.set_ 0 u).frozen 1; have t1 := fun u => (HBN.out.set_ 0 u).cell 1))
            all_goals go_wp2
            all_goals go_meet
            all_goals first
              | exact ⟨_, rfl, rfl, Blk.fill2 HBN.out (.bool u1) (.int .i64 u2), (res2 HBN.out (((Ext.refl w6).alloc _).drew.trans he5) (Nat.le_refl _) (.bool u1) (.int .i64 u2)).2.2⟩
              | exact ⟨_, rfl, rfl, Blk.new w5 37 #[.bool u1, .int .i64 u2], ((Ext.refl w6).drew.trans he5).alloc _⟩
          case rest =>
          obtain ⟨n9, rfl, rfl, hbn9, hxn9⟩ := hcut
          rename World => w7
          have HE7 := Lib.hid (HE6.out.trans hxn9)
          have y0 := hxn9.cell y0
          have y1 := hxn9.cell y1
          have z0 := hxn9.cell z0
          have z1 := hxn9.cell z1
          have d0 : w7.cell? ⟨n7, 0, none⟩ = some (.bool s1) := (HB7.out.ext hxn9).cell 0
          have d1 : w7.cell? ⟨n7, 1, none⟩ = some (.int .i64 s2) := (HB7.out.ext hxn9).cell 1
          clear hbn9 hxn9 hA hP hA1 hP1 HC2 g0 g1 HB7 HE6
          go_upto_region 13 with fail
          go_cut [61] (fun s wx => s = .bool false ∧ Ext w7 wx)
          case first => as_aux_lemma =>
            by_cases e : i = k
            · obtain ⟨h1, h2, h3⟩ := G1.out e
              subst e h1 h2 h3
              clear G1 G2 G3 G4
              go_wp2; go_meet; exact ⟨rfl, by first | exact Ext.refl _ | exact (Ext.refl _).drew⟩
            · have e1 : ((i : Int) == (k : Int)) = false := by simp; omega
              clear G1 G2 G3 G4
              go_wp2; go_meet; exact ⟨rfl, by first | exact Ext.refl _ | exact (Ext.refl _).drew⟩
          case rest =>
          obtain ⟨rfl, hx8⟩ := hcut
          rename World => w8
          have HE8 := Lib.hid (HE7.out.trans hx8)
          have y0 := hx8.cell y0
          have y1 := hx8.cell y1
          have z0 := hx8.cell z0
          have z1 := hx8.cell z1
          have d0 := hx8.cell d0
          have d1 := hx8.cell d1
          clear hx8 HE7
          go_upto_region 15 with fail
          go_cut [74] (fun s wx => s = .bool false ∧ Ext w8 wx)
          case first => as_aux_lemma =>
            by_cases e : i = k
            · have e1 : ((i : Int) != (k : Int)) = false := by simp; omega
              clear e G1 G2 G3 G4
              go_wp2; go_meet; exact ⟨rfl, by first | exact Ext.refl _ | exact (Ext.refl _).drew⟩
            · have e1 : ((i : Int) != (k : Int)) = true := by simp; omega
              have h9 := G2.out e
              clear e G1 G2 G3 G4
              cases is1 with
              | false => go_wp2; go_meet; exact ⟨rfl, by first | exact Ext.refl _ | exact (Ext.refl _).drew⟩
              | true =>
                cases is2 with
                | false => go_wp2; go_meet; exact ⟨rfl, by first | exact Ext.refl _ | exact (Ext.refl _).drew⟩
                | true =>
                  obtain ⟨h1, h2⟩ := h9 rfl rfl
                  have h3 : ¬ x2 < 0 := by omega
                  have h4 : ¬ y2' < 0 := by omega
                  clear h1 h2
                  go_wp2; go_meet; exact ⟨rfl, by first | exact Ext.refl _ | exact (Ext.refl _).drew⟩
          case rest =>
          obtain ⟨rfl, hx9⟩ := hcut
          rename World => w9
          have HE9 := Lib.hid (HE8.out.trans hx9)
          have y0 := hx9.cell y0
          have y1 := hx9.cell y1
          have z0 := hx9.cell z0
          have z1 := hx9.cell z1
          have d0 := hx9.cell d0
          have d1 := hx9.cell d1
          clear hx9 HE8
          go_upto_region 17 with fail
          go_cut [100] (fun s wx => s = .bool false ∧ Ext w9 wx)
          case first => as_aux_lemma =>
            have h9 := G3.out
            clear G1 G2 G3 G4
            cases is1 with
            | false => go_wp2; go_meet; exact ⟨rfl, by first | exact Ext.refl _ | exact (Ext.refl _).drew⟩
            | true =>
              by_cases h1 : x2 < 0
              · by_cases h2 : 0 ≤ y2'
                · have h3 : ¬ la ≤ x1 := by have := h9 rfl h1 h2; omega
                  clear h9
                  go_wp2; go_meet; exact ⟨rfl, by first | exact Ext.refl _ | exact (Ext.refl _).drew⟩
                · clear h9
                  go_wp2; go_meet; exact ⟨rfl, by first | exact Ext.refl _ | exact (Ext.refl _).drew⟩
              · clear h9
                go_wp2; go_meet; exact ⟨rfl, by first | exact Ext.refl _ | exact (Ext.refl _).drew⟩
          case rest =>
          obtain ⟨rfl, hxA⟩ := hcut
          rename World => wA
          have HEA := Lib.hid (HE9.out.trans hxA)
          have y0 := hxA.cell y0
          have y1 := hxA.cell y1
          have z0 := hxA.cell z0
          have z1 := hxA.cell z1
          have d0 := hxA.cell d0
          have d1 := hxA.cell d1
          clear hxA HE9
          go_upto_region 19 with fail
          go_cut [127] (fun s wx => s = .bool false ∧ Ext wA wx)
          case first => as_aux_lemma =>
            have h9 := G4.out
            clear G1 G2 G3 G4 HWY HN HND HSE HCY HOU HIN HX HB0 HL HE HE5 HLT HKL HN9 HEA
            cases is1 with
            | false => (go_region; all_goals go_wp2; all_goals go_meet; all_goals exact ⟨rfl, by first | exact Ext.refl _ | exact (Ext.refl _).drew⟩)
            | true =>
              by_cases h1 : 0 ≤ x2
              · by_cases h2 : 0 ≤ y2'
                · by_cases h3 : y2' < x2
                  · have h4 : ¬ s2 < 1 := by have := h9 rfl h1 h2 h3; omega
                    clear h9
                    (go_region; all_goals go_wp2; all_goals go_meet; all_goals exact ⟨rfl, by first | exact Ext.refl _ | exact (Ext.refl _).drew⟩)
                  · clear h9
                    (go_region; all_goals go_wp2; all_goals go_meet; all_goals exact ⟨rfl, by first | exact Ext.refl _ | exact (Ext.refl _).drew⟩)
                · clear h9
                  (go_region; all_goals go_wp2; all_goals go_meet; all_goals exact ⟨rfl, by first | exact Ext.refl _ | exact (Ext.refl _).drew⟩)
              · clear h9
                (go_region; all_goals go_wp2; all_goals go_meet; all_goals exact ⟨rfl, by first | exact Ext.refl _ | exact (Ext.refl _).drew⟩)
          case rest =>
          obtain ⟨rfl, hxB⟩ := hcut
          rename World => wB
          have HEB := Lib.hid (HEA.out.trans hxB)
          clear hxB HEA y0 y1 z0 z1 d0 d1
          go_wp2
          exact ⟨⟨k + 1, HKL.out, by go_num, HEB.out⟩, by have := HKL.out; simp [intOf]; omega⟩
        · obtain rfl : k = PL.length := by omega
          have r2 : ¬ (PL.length : Int) < (PL.length : Int) := by omega
          clear hkl hk hext
          go_wp2
          exact ⟨⟨i + 1, HLT.out, by go_num, HE.out⟩, by have := HLT.out; simp [intOf]; omega⟩
    · obtain rfl : i = PL.length := by omega
      have r1 : ¬ (PL.length : Int) < (PL.length : Int) := by omega
      have HX := Lib.hid (HX.out.trans HE5.out)
      clear hlt hi hext
      go_wp2_with fail
      refine (lives20_any _).mono ?_
      rintro e wz ⟨rfl, he⟩
      have HX := Lib.hid (HX.out.trans he)
      clear he
      go_wp2
      go_ret
      exact ⟨rfl, HX.out⟩
theorem planEnds_law (w : World) (v : Value) (x : GArg) (hv : v = gAg x.1.1 x.2.2 ∧ NodesR x.1.2 w x.1.1 x.2.1) :
    Calls Try.prog 5 #[v] w fun e w' => e = .returned (.bool true) ∧ Ext w w' := by
  rw [hv.1]
  exact planEnds_any x.1.2 x.1.1 x.2 w hv.2
end Go.Proofs.Ytcacicgkebcdkaa
