/-
  slices.Compact at records; rec.Distinct.
-/
import Derived.Test.YtgmaeeihfoicmaaRecSame
import Derived.Test.YtgmaeeihfoicmaaRowE
namespace Go.Proofs.Ytgmaeeihfoicmaa
open Go.RowKit Go.Ox Go.Shelf
attribute [local irreducible] OP RP
set_option linter.unusedVariables false
set_option linter.unusedSimpArgs false

theorem disUp_short {l : List Rec.R} (h : l.length < 2) : disUp l l.length = l := by
  match l, h with
  | [], _ => rfl
  | [x], _ => rfl
theorem disUp_take_f {l : List Rec.R} {j : Nat} (h : j + 1 < l.length) (hq : ¬ l[j + 1] = l[j]) (ht : disUp l (j + 1) = l.take (j + 1)) : disUp l (j + 1 + 1) = l.take (j + 1 + 1) := by
  rw [disUp_f h hq, ht, ← List.take_succ_eq_append_getElem h]

set_option maxRecDepth 100000 in
set_option maxHeartbeats 4000000 in
theorem compact_any (v : Value) (l : List Rec.R) (base : Nat) (w : World) (hown : OE 23 base w v l) (hl : l.length ≤ 1000000) :
    Calls Try.prog 59 #[v] w fun e w' => ∃ v', e = .returned v' ∧ OE 23 base w' v' (disUp l l.length) ∧ ExtQ (fun k => v.ownBlock = some k) w w' := by
  by_cases h2 : l.length < 2
  · rw [disUp_short h2]
    have HO := Lib.hid hown
    obtain ⟨A, c, rfl⟩ := hown.re.form
    have g : (l.length : Int) < 2 := by omega
    clear hown h2
    go_enter Try.func59, Try.ntmps59
    go_wp2
    go_ret
    exact ⟨_, rfl, HO.out, ExtQ.refl _ _⟩
  rcases hown.open_ with ⟨rfl, rfl⟩ | ⟨b, cap, cur, rfl, hbb, hblk, hnc, hcm, hcs, hhas⟩
  · simp at h2
  have g : ¬ (l.length : Int) < 2 := by omega
  have HO := Lib.hid hown
  have HH2 := Lib.hid h2
  have HHAS := Lib.hid hhas
  have HBLK := Lib.hid hblk
  have HBB := Lib.hid hbb
  have HCS := Lib.hid (show cur.size = cap * 2 from hcs)
  have HCM := Lib.hid hcm
  have hE := eqM
  have hN := neM
  have hG := guardM
  clear hown hhas hblk hbb hcs hcm h2
  go_enter Try.func59, Try.ntmps59
  go_wp2
  clear g
  go_loopw [3, 4, 5] (fun iv _ _ wr => ∃ j n : Nat, n = j + 1 ∧ j + 1 ≤ l.length ∧ iv = .int .i64 (n : Int) ∧ disUp l (j + 1) = l.take (j + 1) ∧ Ext w wr) (fun iv _ _ _ => l.length + 1 - (intOf iv).toNat)
  case atStart => exact ⟨0, 1, rfl, by have := HH2.out; omega, rfl, by have := HH2.out; rw [disUp_0 (by omega)]; match l, this with | x :: r, _ => rfl, Ext.refl _⟩
  case round =>
    obtain ⟨j, n, hn, hj, rfl, hdis, hext⟩ := hrel
    rename World => wA
    have HNJ := Lib.hid hn
    have HE := Lib.hid hext
    have HD := Lib.hid hdis
    have HB0 := Lib.hid (HBLK.out.ext hext)
    clear hdis hext
    by_cases hlt : j + 1 < l.length
    · have g0 : 0 ≤ (j : Int) := by omega
      have g1 : (j : Int) < (l.length : Int) := by omega
      have g2 : (n : Int) < (l.length : Int) := by omega
      have g3 : 0 ≤ (n : Int) := by omega
      have hwr : IntKind.i64.wrap ((n : Int) - 1) = (j : Int) := by rw [IntWalk.i64_in _ (by omega)]; omega
      have hall : Has cur (j * 2) (eV (l.drop j)) := by rw [← eV_drop]; exact HHAS.out.drop (by rw [Nat.zero_add]; rfl)
      have hal2 : Has cur (n * 2) (eV (l.drop (j + 1))) := by rw [← eV_drop, hn]; exact HHAS.out.drop (by rw [Nat.zero_add]; rfl)
      have xa : wA.cell? ⟨b, j * 2, none⟩ = some (.int .i64 l[j].1) := HB0.out.get hall (j := 0) (eV_head (by omega) rfl)
      have xb : wA.cell? ⟨b, j * 2 + 1, none⟩ = some (.int .i64 l[j].2) := HB0.out.get hall (j := 1) (eV_head (by omega) rfl)
      have ya : wA.cell? ⟨b, n * 2, none⟩ = some (.int .i64 l[j + 1].1) := HB0.out.get hal2 (j := 0) (eV_head hlt rfl)
      have yb : wA.cell? ⟨b, n * 2 + 1, none⟩ = some (.int .i64 l[j + 1].2) := HB0.out.get hal2 (j := 1) (eV_head hlt rfl)
      have HT := Lib.hid (disUp_t hlt)
      have HF := Lib.hid (fun hq => disUp_take_f hlt hq HD.out)
      have HLT := Lib.hid hlt
      generalize l[j] = x at *
      generalize l[j + 1] = y at *
      obtain ⟨x1, x2⟩ := x
      obtain ⟨y1, y2⟩ := y
      dsimp only at *
      clear hall hal2 hn hlt
      by_cases hxy : (y1, y2) = (x1, x2)
      · have HT2 := Lib.hid ((HT.out hxy).trans HD.out)
        have hd := pairB_t hxy
        have hlo := fun w => run_lo_at elemM (b := b) (n := l.length) (c := cap) (k := n) (by have := HNJ.out; have := HLT.out; omega) hnc w
        clear hxy HT HF
        go_wp2
        refine wp_region_ext (by kernel_rfl) (by rfl) (by rfl) (by kernel_rfl) ?_
        repeat (first | ((first | (refine wpM_move00 Ext.refl rfl rfl rfl ?_) | (refine wpM_move01 Ext.refl rfl rfl rfl rfl ?_)); apply Exists.intro; refine ⟨?_, ?_⟩; · (go_simp; rfl)) | (first | (refine wpM_movek0 Ext.refl rfl rfl rfl ?_) | (refine wpM_movek1 Ext.refl rfl rfl rfl rfl ?_)) | ((first | (refine wpM_val0 Ext.refl rfl ?_) | (refine wpM_val1 Ext.refl rfl rfl ?_)); apply Exists.intro; refine ⟨?_, ?_⟩; · (intro a w' hR; intro h1; (first | (have e1 : _ = _ := h1) | skip); intro h2; (first | (have e2 : _ = _ := h2) | skip); go_simp; rfl)) | ((first | (refine wpM_val0 Ext.refl rfl ?_) | (refine wpM_val1 Ext.refl rfl rfl ?_)); apply Exists.intro; refine ⟨?_, ?_⟩; · (intro a w' hR; intro h1; (first | (have e1 : _ = _ := h1) | skip); go_simp; rfl)) | ((first | (refine wpM_val0 Ext.refl rfl ?_) | (refine wpM_val1 Ext.refl rfl rfl ?_)); apply Exists.intro; refine ⟨?_, ?_⟩; · (intro a w' hR; go_simp; rfl)) | ((first | (refine wpM_val0 Ext.refl rfl ?_) | (refine wpM_val1 Ext.refl rfl rfl ?_)); apply Exists.intro; refine ⟨?_, ?_⟩; · (intro a w' hR; intro h1; (first | (have e1 : _ = _ := h1) | skip); intro h2; (first | (have e2 : _ = _ := h2) | skip); intro h3; (first | (have e3 : _ = _ := h3) | skip); go_simp; rfl)) | (refine wpM_skip1 rfl ?_) | (refine wpM_skipU rfl ?_))
        (first | (refine wpM_val0 Ext.refl rfl ?_) | (refine wpM_val1 Ext.refl rfl rfl ?_)); apply Exists.intro; refine ⟨?_, ?_⟩
        · intro a w' hR h1
          have e1 : _ = _ := h1
          have hl0 := hR.cell ya
          have hl1 := hR.cell yb
          go_simp
          rfl
        repeat (first | ((first | (refine wpM_move00 Ext.refl rfl rfl rfl ?_) | (refine wpM_move01 Ext.refl rfl rfl rfl rfl ?_)); apply Exists.intro; refine ⟨?_, ?_⟩; · (go_simp; rfl)) | (first | (refine wpM_movek0 Ext.refl rfl rfl rfl ?_) | (refine wpM_movek1 Ext.refl rfl rfl rfl rfl ?_)) | ((first | (refine wpM_val0 Ext.refl rfl ?_) | (refine wpM_val1 Ext.refl rfl rfl ?_)); apply Exists.intro; refine ⟨?_, ?_⟩; · (intro a w' hR; intro h1; (first | (have e1 : _ = _ := h1) | skip); intro h2; (first | (have e2 : _ = _ := h2) | skip); go_simp; rfl)) | ((first | (refine wpM_val0 Ext.refl rfl ?_) | (refine wpM_val1 Ext.refl rfl rfl ?_)); apply Exists.intro; refine ⟨?_, ?_⟩; · (intro a w' hR; intro h1; (first | (have e1 : _ = _ := h1) | skip); go_simp; rfl)) | ((first | (refine wpM_val0 Ext.refl rfl ?_) | (refine wpM_val1 Ext.refl rfl rfl ?_)); apply Exists.intro; refine ⟨?_, ?_⟩; · (intro a w' hR; go_simp; rfl)) | ((first | (refine wpM_val0 Ext.refl rfl ?_) | (refine wpM_val1 Ext.refl rfl rfl ?_)); apply Exists.intro; refine ⟨?_, ?_⟩; · (intro a w' hR; intro h1; (first | (have e1 : _ = _ := h1) | skip); intro h2; (first | (have e2 : _ = _ := h2) | skip); intro h3; (first | (have e3 : _ = _ := h3) | skip); go_simp; rfl)) | (refine wpM_skip1 rfl ?_) | (refine wpM_skipU rfl ?_))
        (first | (refine wpM_val0 Ext.refl rfl ?_) | (refine wpM_val1 Ext.refl rfl rfl ?_)); apply Exists.intro; refine ⟨?_, ?_⟩
        · intro a w' hR h1
          have e1 : _ = _ := h1
          have hl0 := hR.cell xa
          have hl1 := hR.cell xb
          go_simp
          rfl
        repeat (first | ((first | (refine wpM_move00 Ext.refl rfl rfl rfl ?_) | (refine wpM_move01 Ext.refl rfl rfl rfl rfl ?_)); apply Exists.intro; refine ⟨?_, ?_⟩; · (go_simp; rfl)) | (first | (refine wpM_movek0 Ext.refl rfl rfl rfl ?_) | (refine wpM_movek1 Ext.refl rfl rfl rfl rfl ?_)) | ((first | (refine wpM_val0 Ext.refl rfl ?_) | (refine wpM_val1 Ext.refl rfl rfl ?_)); apply Exists.intro; refine ⟨?_, ?_⟩; · (intro a w' hR; intro h1; (first | (have e1 : _ = _ := h1) | skip); intro h2; (first | (have e2 : _ = _ := h2) | skip); go_simp; rfl)) | ((first | (refine wpM_val0 Ext.refl rfl ?_) | (refine wpM_val1 Ext.refl rfl rfl ?_)); apply Exists.intro; refine ⟨?_, ?_⟩; · (intro a w' hR; intro h1; (first | (have e1 : _ = _ := h1) | skip); go_simp; rfl)) | ((first | (refine wpM_val0 Ext.refl rfl ?_) | (refine wpM_val1 Ext.refl rfl rfl ?_)); apply Exists.intro; refine ⟨?_, ?_⟩; · (intro a w' hR; go_simp; rfl)) | ((first | (refine wpM_val0 Ext.refl rfl ?_) | (refine wpM_val1 Ext.refl rfl rfl ?_)); apply Exists.intro; refine ⟨?_, ?_⟩; · (intro a w' hR; intro h1; (first | (have e1 : _ = _ := h1) | skip); intro h2; (first | (have e2 : _ = _ := h2) | skip); intro h3; (first | (have e3 : _ = _ := h3) | skip); go_simp; rfl)) | (refine wpM_skip1 rfl ?_) | (refine wpM_skipU rfl ?_))
        refine wpM_done ?_
        intro w5 hx5
        iterate 10 (rintro _ rfl)
        dsimp only [FinV]
        go_simp
        have HX5 := Lib.hid (HE.out.trans hx5)
        have HB5 := Lib.hid (HB0.out.ext hx5)
        clear hx5 xa xb ya yb hd hwr
        have HNP := Lib.hid HNJ.out
        go_wp2
        clear hlo
        have hpl : n < l.length := by have := HNP.out; have := HLT.out; omega
        go_loopw [3, 5] (fun iv i2 wr => ∃ (i q : Nat) (n2 : Nat) (cu : Array Value), iv = .int .i64 (i : Int) ∧ n2 = q + 1 ∧ i2 = .int .i64 (n2 : Int) ∧ n + q + 1 ≤ l.length ∧ i ≤ n + q ∧ (disUp l (n + q + 1)).length = i ∧ Blk wr b 23 cu ∧ cu.size = cap * 2 ∧ Has cu 0 (eV (disUp l (n + q + 1))) ∧ Has cu ((n + q) * 2) (eV (l.drop (n + q))) ∧ ExtQ (fun k => some b = some k) w wr) (fun _ i2 _ => l.length + 1 - (intOf i2).toNat)
        case atStart =>
          have hd1 : disUp l (n + 0 + 1) = l.take n := by rw [Nat.add_zero, HNP.out, HT2.out]
          refine ⟨n, 0, 1, cur, rfl, rfl, rfl, by omega, by omega, by rw [hd1, List.length_take]; omega, HB5.out, HCS.out, ?_, ?_, ExtQ.of HX5.out⟩
          · rw [hd1, ← eV_take]
            intro j u hu
            rw [List.getElem?_take] at hu
            split at hu
            · exact HHAS.out j u hu
            · cases hu
          · rw [← eV_drop]; exact HHAS.out.drop (by rw [Nat.zero_add]; rfl)
        case round =>
          obtain ⟨i, q, n2, cu, rfl, hn2, rfl, hq, hiq, hki, hb, hcs2, hA, hB, hext⟩ := hrel
          rename World => wB
          have HB0' := Lib.hid hb
          have HKI := Lib.hid hki
          have HCU := Lib.hid hcs2
          have HA := Lib.hid hA
          have HB := Lib.hid hB
          have HE2 := Lib.hid hext
          have HN2 := Lib.hid hn2
          clear hb hcs2 hA hB hext hki
          by_cases hlt : n + q + 1 < l.length
          · have g0 : 0 ≤ (q : Int) := by omega
            have g1 : (q : Int) < ((l.length - n : Nat) : Int) := by omega
            have g2 : (n2 : Int) < ((l.length - n : Nat) : Int) := by omega
            have g3 : 0 ≤ (n2 : Int) := by omega
            have g4 : 0 ≤ (i : Int) := by omega
            have g5 : (i : Int) < (l.length : Int) := by omega
            have hwr : IntKind.i64.wrap ((n2 : Int) - 1) = (q : Int) := by rw [IntWalk.i64_in _ (by omega)]; omega
            have hB2 : Has cu ((n + q + 1) * 2) (eV (l.drop (n + q + 1))) := by
              have h8 := HB.out.drop (n := 1 * 2) (q := (n + q + 1) * 2) (by omega)
              rwa [show (1 * 2 : Nat) = 1 * Enc.k (Int × Int) from rfl, eV_drop, List.drop_drop] at h8
            have HB2 := Lib.hid hB2
            have xa : wB.cell? ⟨b, n * 2 + q * 2, none⟩ = some (.int .i64 l[n + q].1) := by rw [show n * 2 + q * 2 = (n + q) * 2 + 0 by omega]; exact HB0'.out.get HB.out (j := 0) (eV_head (by omega) rfl)
            have xb : wB.cell? ⟨b, n * 2 + q * 2 + 1, none⟩ = some (.int .i64 l[n + q].2) := by rw [show n * 2 + q * 2 + 1 = (n + q) * 2 + 1 by omega]; exact HB0'.out.get HB.out (j := 1) (eV_head (by omega) rfl)
            have ya : wB.cell? ⟨b, n * 2 + n2 * 2, none⟩ = some (.int .i64 l[n + q + 1].1) := by rw [show n * 2 + n2 * 2 = (n + q + 1) * 2 + 0 by omega]; exact HB0'.out.get hB2 (j := 0) (eV_head hlt rfl)
            have yb : wB.cell? ⟨b, n * 2 + n2 * 2 + 1, none⟩ = some (.int .i64 l[n + q + 1].2) := by rw [show n * 2 + n2 * 2 + 1 = (n + q + 1) * 2 + 1 by omega]; exact HB0'.out.get hB2 (j := 1) (eV_head hlt rfl)
            have HT := Lib.hid (disUp_t hlt)
            have HF := Lib.hid (disUp_f hlt)
            have HLT2 := Lib.hid hlt
            have HIQ := Lib.hid hiq
            generalize l[n + q] = x at *
            generalize l[n + q + 1] = y at *
            obtain ⟨x1, x2⟩ := x
            obtain ⟨y1, y2⟩ := y
            dsimp only at *
            have hIC : i * 2 + 1 < cu.size := by rw [HCU.out]; omega
            clear hB2 hn2 hlt hiq hq
            by_cases hxy : (y1, y2) = (x1, x2)
            · have HT2 := Lib.hid (HT.out hxy)
              have hd := pairB_t hxy
              clear hxy HT HF hIC
              go_wp2
              refine wp_region_ext (by kernel_rfl) (by rfl) (by rfl) (by kernel_rfl) ?_
              repeat (first | ((first | (refine wpM_move00 Ext.refl rfl rfl rfl ?_) | (refine wpM_move01 Ext.refl rfl rfl rfl rfl ?_)); apply Exists.intro; refine ⟨?_, ?_⟩; · (go_simp; rfl)) | (first | (refine wpM_movek0 Ext.refl rfl rfl rfl ?_) | (refine wpM_movek1 Ext.refl rfl rfl rfl rfl ?_)) | ((first | (refine wpM_val0 Ext.refl rfl ?_) | (refine wpM_val1 Ext.refl rfl rfl ?_)); apply Exists.intro; refine ⟨?_, ?_⟩; · (intro a w' hR; intro h1; (first | (have e1 : _ = _ := h1) | skip); intro h2; (first | (have e2 : _ = _ := h2) | skip); go_simp; rfl)) | ((first | (refine wpM_val0 Ext.refl rfl ?_) | (refine wpM_val1 Ext.refl rfl rfl ?_)); apply Exists.intro; refine ⟨?_, ?_⟩; · (intro a w' hR; intro h1; (first | (have e1 : _ = _ := h1) | skip); go_simp; rfl)) | ((first | (refine wpM_val0 Ext.refl rfl ?_) | (refine wpM_val1 Ext.refl rfl rfl ?_)); apply Exists.intro; refine ⟨?_, ?_⟩; · (intro a w' hR; go_simp; rfl)) | ((first | (refine wpM_val0 Ext.refl rfl ?_) | (refine wpM_val1 Ext.refl rfl rfl ?_)); apply Exists.intro; refine ⟨?_, ?_⟩; · (intro a w' hR; intro h1; (first | (have e1 : _ = _ := h1) | skip); intro h2; (first | (have e2 : _ = _ := h2) | skip); intro h3; (first | (have e3 : _ = _ := h3) | skip); go_simp; rfl)) | (refine wpM_skip1 rfl ?_) | (refine wpM_skipU rfl ?_))
              (first | (refine wpM_val0 Ext.refl rfl ?_) | (refine wpM_val1 Ext.refl rfl rfl ?_)); apply Exists.intro; refine ⟨?_, ?_⟩
              · intro a w' hR h1
                have e1 : _ = _ := h1
                have hl0 := hR.cell ya
                have hl1 := hR.cell yb
                go_simp
                rfl
              repeat (first | ((first | (refine wpM_move00 Ext.refl rfl rfl rfl ?_) | (refine wpM_move01 Ext.refl rfl rfl rfl rfl ?_)); apply Exists.intro; refine ⟨?_, ?_⟩; · (go_simp; rfl)) | (first | (refine wpM_movek0 Ext.refl rfl rfl rfl ?_) | (refine wpM_movek1 Ext.refl rfl rfl rfl rfl ?_)) | ((first | (refine wpM_val0 Ext.refl rfl ?_) | (refine wpM_val1 Ext.refl rfl rfl ?_)); apply Exists.intro; refine ⟨?_, ?_⟩; · (intro a w' hR; intro h1; (first | (have e1 : _ = _ := h1) | skip); intro h2; (first | (have e2 : _ = _ := h2) | skip); go_simp; rfl)) | ((first | (refine wpM_val0 Ext.refl rfl ?_) | (refine wpM_val1 Ext.refl rfl rfl ?_)); apply Exists.intro; refine ⟨?_, ?_⟩; · (intro a w' hR; intro h1; (first | (have e1 : _ = _ := h1) | skip); go_simp; rfl)) | ((first | (refine wpM_val0 Ext.refl rfl ?_) | (refine wpM_val1 Ext.refl rfl rfl ?_)); apply Exists.intro; refine ⟨?_, ?_⟩; · (intro a w' hR; go_simp; rfl)) | ((first | (refine wpM_val0 Ext.refl rfl ?_) | (refine wpM_val1 Ext.refl rfl rfl ?_)); apply Exists.intro; refine ⟨?_, ?_⟩; · (intro a w' hR; intro h1; (first | (have e1 : _ = _ := h1) | skip); intro h2; (first | (have e2 : _ = _ := h2) | skip); intro h3; (first | (have e3 : _ = _ := h3) | skip); go_simp; rfl)) | (refine wpM_skip1 rfl ?_) | (refine wpM_skipU rfl ?_))
              (first | (refine wpM_val0 Ext.refl rfl ?_) | (refine wpM_val1 Ext.refl rfl rfl ?_)); apply Exists.intro; refine ⟨?_, ?_⟩
              · intro a w' hR h1
                have e1 : _ = _ := h1
                have hl0 := hR.cell xa
                have hl1 := hR.cell xb
                go_simp
                rfl
              repeat (first | ((first | (refine wpM_move00 Ext.refl rfl rfl rfl ?_) | (refine wpM_move01 Ext.refl rfl rfl rfl rfl ?_)); apply Exists.intro; refine ⟨?_, ?_⟩; · (go_simp; rfl)) | (first | (refine wpM_movek0 Ext.refl rfl rfl rfl ?_) | (refine wpM_movek1 Ext.refl rfl rfl rfl rfl ?_)) | ((first | (refine wpM_val0 Ext.refl rfl ?_) | (refine wpM_val1 Ext.refl rfl rfl ?_)); apply Exists.intro; refine ⟨?_, ?_⟩; · (intro a w' hR; intro h1; (first | (have e1 : _ = _ := h1) | skip); intro h2; (first | (have e2 : _ = _ := h2) | skip); go_simp; rfl)) | ((first | (refine wpM_val0 Ext.refl rfl ?_) | (refine wpM_val1 Ext.refl rfl rfl ?_)); apply Exists.intro; refine ⟨?_, ?_⟩; · (intro a w' hR; intro h1; (first | (have e1 : _ = _ := h1) | skip); go_simp; rfl)) | ((first | (refine wpM_val0 Ext.refl rfl ?_) | (refine wpM_val1 Ext.refl rfl rfl ?_)); apply Exists.intro; refine ⟨?_, ?_⟩; · (intro a w' hR; go_simp; rfl)) | ((first | (refine wpM_val0 Ext.refl rfl ?_) | (refine wpM_val1 Ext.refl rfl rfl ?_)); apply Exists.intro; refine ⟨?_, ?_⟩; · (intro a w' hR; intro h1; (first | (have e1 : _ = _ := h1) | skip); intro h2; (first | (have e2 : _ = _ := h2) | skip); intro h3; (first | (have e3 : _ = _ := h3) | skip); go_simp; rfl)) | (refine wpM_skip1 rfl ?_) | (refine wpM_skipU rfl ?_))
              refine wpM_done ?_
              intro w6 hx6
              iterate 10 (rintro _ rfl)
              dsimp only [FinV]
              go_simp
              have HX6 := Lib.hid (HE2.out.trans (ExtQ.of hx6))
              have HB6 := Lib.hid (HB0'.out.ext hx6)
              clear hx6 xa xb ya yb
              go_wp2
              exact ⟨⟨i, q + 1, n2 + 1, cu, rfl, by have := HN2.out; omega, by go_num, by have := HLT2.out; omega, by have := HIQ.out; omega, by rw [← Nat.add_assoc, HT2.out]; exact HKI.out, HB6.out, HCU.out, by rw [← Nat.add_assoc, HT2.out]; exact HA.out, by rw [← Nat.add_assoc]; exact HB2.out, HX6.out⟩, by have := HLT2.out; have := HN2.out; simp [intOf]; omega⟩
            · have HF2 := Lib.hid (HF.out hxy)
              have hd := pairB_f hxy
              clear hxy HT HF
              go_wp2
              refine wp_region_ext (by kernel_rfl) (by rfl) (by rfl) (by kernel_rfl) ?_
              repeat (first | ((first | (refine wpM_move00 Ext.refl rfl rfl rfl ?_) | (refine wpM_move01 Ext.refl rfl rfl rfl rfl ?_)); apply Exists.intro; refine ⟨?_, ?_⟩; · (go_simp; rfl)) | (first | (refine wpM_movek0 Ext.refl rfl rfl rfl ?_) | (refine wpM_movek1 Ext.refl rfl rfl rfl rfl ?_)) | ((first | (refine wpM_val0 Ext.refl rfl ?_) | (refine wpM_val1 Ext.refl rfl rfl ?_)); apply Exists.intro; refine ⟨?_, ?_⟩; · (intro a w' hR; intro h1; (first | (have e1 : _ = _ := h1) | skip); intro h2; (first | (have e2 : _ = _ := h2) | skip); go_simp; rfl)) | ((first | (refine wpM_val0 Ext.refl rfl ?_) | (refine wpM_val1 Ext.refl rfl rfl ?_)); apply Exists.intro; refine ⟨?_, ?_⟩; · (intro a w' hR; intro h1; (first | (have e1 : _ = _ := h1) | skip); go_simp; rfl)) | ((first | (refine wpM_val0 Ext.refl rfl ?_) | (refine wpM_val1 Ext.refl rfl rfl ?_)); apply Exists.intro; refine ⟨?_, ?_⟩; · (intro a w' hR; go_simp; rfl)) | ((first | (refine wpM_val0 Ext.refl rfl ?_) | (refine wpM_val1 Ext.refl rfl rfl ?_)); apply Exists.intro; refine ⟨?_, ?_⟩; · (intro a w' hR; intro h1; (first | (have e1 : _ = _ := h1) | skip); intro h2; (first | (have e2 : _ = _ := h2) | skip); intro h3; (first | (have e3 : _ = _ := h3) | skip); go_simp; rfl)) | (refine wpM_skip1 rfl ?_) | (refine wpM_skipU rfl ?_))
              (first | (refine wpM_val0 Ext.refl rfl ?_) | (refine wpM_val1 Ext.refl rfl rfl ?_)); apply Exists.intro; refine ⟨?_, ?_⟩
              · intro a w' hR h1
                have e1 : _ = _ := h1
                have hl0 := hR.cell ya
                have hl1 := hR.cell yb
                go_simp
                rfl
              repeat (first | ((first | (refine wpM_move00 Ext.refl rfl rfl rfl ?_) | (refine wpM_move01 Ext.refl rfl rfl rfl rfl ?_)); apply Exists.intro; refine ⟨?_, ?_⟩; · (go_simp; rfl)) | (first | (refine wpM_movek0 Ext.refl rfl rfl rfl ?_) | (refine wpM_movek1 Ext.refl rfl rfl rfl rfl ?_)) | ((first | (refine wpM_val0 Ext.refl rfl ?_) | (refine wpM_val1 Ext.refl rfl rfl ?_)); apply Exists.intro; refine ⟨?_, ?_⟩; · (intro a w' hR; intro h1; (first | (have e1 : _ = _ := h1) | skip); intro h2; (first | (have e2 : _ = _ := h2) | skip); go_simp; rfl)) | ((first | (refine wpM_val0 Ext.refl rfl ?_) | (refine wpM_val1 Ext.refl rfl rfl ?_)); apply Exists.intro; refine ⟨?_, ?_⟩; · (intro a w' hR; intro h1; (first | (have e1 : _ = _ := h1) | skip); go_simp; rfl)) | ((first | (refine wpM_val0 Ext.refl rfl ?_) | (refine wpM_val1 Ext.refl rfl rfl ?_)); apply Exists.intro; refine ⟨?_, ?_⟩; · (intro a w' hR; go_simp; rfl)) | ((first | (refine wpM_val0 Ext.refl rfl ?_) | (refine wpM_val1 Ext.refl rfl rfl ?_)); apply Exists.intro; refine ⟨?_, ?_⟩; · (intro a w' hR; intro h1; (first | (have e1 : _ = _ := h1) | skip); intro h2; (first | (have e2 : _ = _ := h2) | skip); intro h3; (first | (have e3 : _ = _ := h3) | skip); go_simp; rfl)) | (refine wpM_skip1 rfl ?_) | (refine wpM_skipU rfl ?_))
              (first | (refine wpM_val0 Ext.refl rfl ?_) | (refine wpM_val1 Ext.refl rfl rfl ?_)); apply Exists.intro; refine ⟨?_, ?_⟩
              · intro a w' hR h1
                have e1 : _ = _ := h1
                have hl0 := hR.cell xa
                have hl1 := hR.cell xb
                go_simp
                rfl
              repeat (first | ((first | (refine wpM_move00 Ext.refl rfl rfl rfl ?_) | (refine wpM_move01 Ext.refl rfl rfl rfl rfl ?_)); apply Exists.intro; refine ⟨?_, ?_⟩; · (go_simp; rfl)) | (first | (refine wpM_movek0 Ext.refl rfl rfl rfl ?_) | (refine wpM_movek1 Ext.refl rfl rfl rfl rfl ?_)) | ((first | (refine wpM_val0 Ext.refl rfl ?_) | (refine wpM_val1 Ext.refl rfl rfl ?_)); apply Exists.intro; refine ⟨?_, ?_⟩; · (intro a w' hR; intro h1; (first | (have e1 : _ = _ := h1) | skip); intro h2; (first | (have e2 : _ = _ := h2) | skip); go_simp; rfl)) | ((first | (refine wpM_val0 Ext.refl rfl ?_) | (refine wpM_val1 Ext.refl rfl rfl ?_)); apply Exists.intro; refine ⟨?_, ?_⟩; · (intro a w' hR; intro h1; (first | (have e1 : _ = _ := h1) | skip); go_simp; rfl)) | ((first | (refine wpM_val0 Ext.refl rfl ?_) | (refine wpM_val1 Ext.refl rfl rfl ?_)); apply Exists.intro; refine ⟨?_, ?_⟩; · (intro a w' hR; go_simp; rfl)) | ((first | (refine wpM_val0 Ext.refl rfl ?_) | (refine wpM_val1 Ext.refl rfl rfl ?_)); apply Exists.intro; refine ⟨?_, ?_⟩; · (intro a w' hR; intro h1; (first | (have e1 : _ = _ := h1) | skip); intro h2; (first | (have e2 : _ = _ := h2) | skip); intro h3; (first | (have e3 : _ = _ := h3) | skip); go_simp; rfl)) | (refine wpM_skip1 rfl ?_) | (refine wpM_skipU rfl ?_))
              refine wpM_done ?_
              intro w6 hx6
              iterate 10 (rintro _ rfl)
              dsimp only [FinV]
              go_simp
              have HX6 := Lib.hid (HE2.out.trans (ExtQ.of hx6))
              have HB6 := Lib.hid (HB0'.out.ext hx6)
              have ya := hx6.cell ya
              have yb := hx6.cell yb
              clear hx6 xa xb
              obtain ⟨o0, ho0⟩ : ∃ u, w6.cell? ⟨b, i * 2, none⟩ = some u := ⟨_, (HB6.out.cell _).trans (Array.getElem?_eq_getElem (by omega))⟩
              have hf0 := HB6.out.frozen (i * 2)
              obtain ⟨o1, ho1⟩ : ∃ u, w6.cell? ⟨b, i * 2 + 1, none⟩ = some u := ⟨_, (HB6.out.cell _).trans (Array.getElem?_eq_getElem (by omega))⟩
              have hf1 := HB6.out.frozen (i * 2 + 1)
              have HIC := Lib.hid hIC
              clear hIC
              go_wp2
              have h5 : Blk ((w6.setCell ⟨b, i * 2, none⟩ (.int .i64 y1)).setCell ⟨b, i * 2 + 1, none⟩ (.int .i64 y2)) b 23 (setL cu (i * 2) [.int .i64 y1, .int .i64 y2]) := Blk.setCells (w := w6) [.int .i64 y1, .int .i64 y2] (i * 2) HB6.out
              have hx5 : ExtQ (fun k => some b = some k) w6 ((w6.setCell ⟨b, i * 2, none⟩ (.int .i64 y1)).setCell ⟨b, i * 2 + 1, none⟩ (.int .i64 y2)) := ExtQ.setCells (Q := fun k => some b = some k) (g := b) (ExtQ.refl _ _) rfl [.int .i64 y1, .int .i64 y2] (i * 2)
              generalize ((w6.setCell ⟨b, i * 2, none⟩ (.int .i64 y1)).setCell ⟨b, i * 2 + 1, none⟩ (.int .i64 y2)) = w7 at *
              have hsz : (setL cu (i * 2) [.int .i64 y1, .int .i64 y2]).size = cap * 2 := by rw [setL_size]; exact HCU.out
              have h1 := setL_in [.int .i64 y1, .int .i64 y2] cu (i * 2) (by have := HIC.out; simp; omega)
              have h2 := HA.out.out (q := i * 2) (ds := [.int .i64 y1, .int .i64 y2]) (.inl (by rw [eV_len, HKI.out]; show 0 + i * 2 ≤ _; omega))
              have h3 := HB2.out.out (q := i * 2) (ds := [.int .i64 y1, .int .i64 y2]) (.inr (by have := HIQ.out; simp; omega))
              refine ⟨⟨i + 1, q + 1, n2 + 1, _, by go_num, by have := HN2.out; omega, by go_num, by have := HLT2.out; omega, by have := HIQ.out; omega, by rw [← Nat.add_assoc, HF2.out, List.length_append, HKI.out]; rfl, h5, hsz, ?_, by rw [← Nat.add_assoc]; exact h3, HX6.out.trans hx5⟩, by have := HLT2.out; have := HN2.out; simp [intOf]; omega⟩
              rw [← Nat.add_assoc, HF2.out, eV_app]
              exact h2.app h1 (by rw [eV_len, HKI.out]; show _ = 0 + i * 2; omega)
          · have hq2 : n + q + 1 = l.length := by omega
            have g1 : ¬ (n2 : Int) < ((l.length - n : Nat) : Int) := by omega
            have hil : i < l.length := by omega
            have hlo := fun w => run_lo_at elemM (b := b) (n := l.length) (c := cap) (k := i) hil hnc w
            have hhi := fun w => run_hi_at elemM (b := b) (n := l.length) (c := cap) (k := i) (by omega) w
            obtain ⟨zs, hzs, hcl⟩ := run_clearK elemM (by decide) HB0'.out (o := i * 2) (n := l.length - i) (c := cap - i) (by omega) (by rw [HCU.out]; omega)
            rw [hq2] at HKI HA
            clear hzs hq hn2
            go_wp2
            go_ret
            have hx5 : ExtQ (fun k => some b = some k) wB (wB.setCells b (i * 2) zs) := ExtQ.setCells (Q := fun k => some b = some k) (g := b) (ExtQ.refl _ _) rfl zs (i * 2)
            have h5 := Blk.setCells (w := wB) zs (i * 2) HB0'.out
            have h2 := HA.out.out (q := i * 2) (ds := zs) (.inl (by rw [eV_len, HKI.out]; show 0 + i * 2 ≤ _; omega))
            exact ⟨_, rfl, OE.shut HKI.out HBB.out h5 (by omega) HCM.out (by rw [setL_size]; exact HCU.out) h2, HE2.out.trans hx5⟩
      · have HF2 := Lib.hid (HF.out hxy)
        have hd := pairB_f hxy
        clear hxy HT HF
        go_wp2
        refine wp_region_ext (by kernel_rfl) (by rfl) (by rfl) (by kernel_rfl) ?_
        repeat (first | ((first | (refine wpM_move00 Ext.refl rfl rfl rfl ?_) | (refine wpM_move01 Ext.refl rfl rfl rfl rfl ?_)); apply Exists.intro; refine ⟨?_, ?_⟩; · (go_simp; rfl)) | (first | (refine wpM_movek0 Ext.refl rfl rfl rfl ?_) | (refine wpM_movek1 Ext.refl rfl rfl rfl rfl ?_)) | ((first | (refine wpM_val0 Ext.refl rfl ?_) | (refine wpM_val1 Ext.refl rfl rfl ?_)); apply Exists.intro; refine ⟨?_, ?_⟩; · (intro a w' hR; intro h1; (first | (have e1 : _ = _ := h1) | skip); intro h2; (first | (have e2 : _ = _ := h2) | skip); go_simp; rfl)) | ((first | (refine wpM_val0 Ext.refl rfl ?_) | (refine wpM_val1 Ext.refl rfl rfl ?_)); apply Exists.intro; refine ⟨?_, ?_⟩; · (intro a w' hR; intro h1; (first | (have e1 : _ = _ := h1) | skip); go_simp; rfl)) | ((first | (refine wpM_val0 Ext.refl rfl ?_) | (refine wpM_val1 Ext.refl rfl rfl ?_)); apply Exists.intro; refine ⟨?_, ?_⟩; · (intro a w' hR; go_simp; rfl)) | ((first | (refine wpM_val0 Ext.refl rfl ?_) | (refine wpM_val1 Ext.refl rfl rfl ?_)); apply Exists.intro; refine ⟨?_, ?_⟩; · (intro a w' hR; intro h1; (first | (have e1 : _ = _ := h1) | skip); intro h2; (first | (have e2 : _ = _ := h2) | skip); intro h3; (first | (have e3 : _ = _ := h3) | skip); go_simp; rfl)) | (refine wpM_skip1 rfl ?_) | (refine wpM_skipU rfl ?_))
        (first | (refine wpM_val0 Ext.refl rfl ?_) | (refine wpM_val1 Ext.refl rfl rfl ?_)); apply Exists.intro; refine ⟨?_, ?_⟩
        · intro a w' hR h1
          have e1 : _ = _ := h1
          have hl0 := hR.cell ya
          have hl1 := hR.cell yb
          go_simp
          rfl
        repeat (first | ((first | (refine wpM_move00 Ext.refl rfl rfl rfl ?_) | (refine wpM_move01 Ext.refl rfl rfl rfl rfl ?_)); apply Exists.intro; refine ⟨?_, ?_⟩; · (go_simp; rfl)) | (first | (refine wpM_movek0 Ext.refl rfl rfl rfl ?_) | (refine wpM_movek1 Ext.refl rfl rfl rfl rfl ?_)) | ((first | (refine wpM_val0 Ext.refl rfl ?_) | (refine wpM_val1 Ext.refl rfl rfl ?_)); apply Exists.intro; refine ⟨?_, ?_⟩; · (intro a w' hR; intro h1; (first | (have e1 : _ = _ := h1) | skip); intro h2; (first | (have e2 : _ = _ := h2) | skip); go_simp; rfl)) | ((first | (refine wpM_val0 Ext.refl rfl ?_) | (refine wpM_val1 Ext.refl rfl rfl ?_)); apply Exists.intro; refine ⟨?_, ?_⟩; · (intro a w' hR; intro h1; (first | (have e1 : _ = _ := h1) | skip); go_simp; rfl)) | ((first | (refine wpM_val0 Ext.refl rfl ?_) | (refine wpM_val1 Ext.refl rfl rfl ?_)); apply Exists.intro; refine ⟨?_, ?_⟩; · (intro a w' hR; go_simp; rfl)) | ((first | (refine wpM_val0 Ext.refl rfl ?_) | (refine wpM_val1 Ext.refl rfl rfl ?_)); apply Exists.intro; refine ⟨?_, ?_⟩; · (intro a w' hR; intro h1; (first | (have e1 : _ = _ := h1) | skip); intro h2; (first | (have e2 : _ = _ := h2) | skip); intro h3; (first | (have e3 : _ = _ := h3) | skip); go_simp; rfl)) | (refine wpM_skip1 rfl ?_) | (refine wpM_skipU rfl ?_))
        (first | (refine wpM_val0 Ext.refl rfl ?_) | (refine wpM_val1 Ext.refl rfl rfl ?_)); apply Exists.intro; refine ⟨?_, ?_⟩
        · intro a w' hR h1
          have e1 : _ = _ := h1
          have hl0 := hR.cell xa
          have hl1 := hR.cell xb
          go_simp
          rfl
        repeat (first | ((first | (refine wpM_move00 Ext.refl rfl rfl rfl ?_) | (refine wpM_move01 Ext.refl rfl rfl rfl rfl ?_)); apply Exists.intro; refine ⟨?_, ?_⟩; · (go_simp; rfl)) | (first | (refine wpM_movek0 Ext.refl rfl rfl rfl ?_) | (refine wpM_movek1 Ext.refl rfl rfl rfl rfl ?_)) | ((first | (refine wpM_val0 Ext.refl rfl ?_) | (refine wpM_val1 Ext.refl rfl rfl ?_)); apply Exists.intro; refine ⟨?_, ?_⟩; · (intro a w' hR; intro h1; (first | (have e1 : _ = _ := h1) | skip); intro h2; (first | (have e2 : _ = _ := h2) | skip); go_simp; rfl)) | ((first | (refine wpM_val0 Ext.refl rfl ?_) | (refine wpM_val1 Ext.refl rfl rfl ?_)); apply Exists.intro; refine ⟨?_, ?_⟩; · (intro a w' hR; intro h1; (first | (have e1 : _ = _ := h1) | skip); go_simp; rfl)) | ((first | (refine wpM_val0 Ext.refl rfl ?_) | (refine wpM_val1 Ext.refl rfl rfl ?_)); apply Exists.intro; refine ⟨?_, ?_⟩; · (intro a w' hR; go_simp; rfl)) | ((first | (refine wpM_val0 Ext.refl rfl ?_) | (refine wpM_val1 Ext.refl rfl rfl ?_)); apply Exists.intro; refine ⟨?_, ?_⟩; · (intro a w' hR; intro h1; (first | (have e1 : _ = _ := h1) | skip); intro h2; (first | (have e2 : _ = _ := h2) | skip); intro h3; (first | (have e3 : _ = _ := h3) | skip); go_simp; rfl)) | (refine wpM_skip1 rfl ?_) | (refine wpM_skipU rfl ?_))
        refine wpM_done ?_
        intro w5 hx5
        iterate 10 (rintro _ rfl)
        dsimp only [FinV]
        go_simp
        have HX5 := Lib.hid (HE.out.trans hx5)
        clear hx5
        go_wp2
        exact ⟨⟨j + 1, j + 1 + 1, rfl, by have := HLT.out; omega, by rw [HNJ.out]; go_num, HF2.out, HX5.out⟩, by have := HLT.out; have := HNJ.out; simp [intOf]; omega⟩
    · have hj2 : j + 1 = l.length := by omega
      have g2 : ¬ (n : Int) < (l.length : Int) := by omega
      have HR := Lib.hid (show disUp l l.length = l by have := HD.out; rw [hj2, List.take_length] at this; exact this)
      clear hn hj hj2
      go_wp2
      go_ret
      rw [HR.out]
      exact ⟨_, rfl, HO.out.ext HE.out, ExtQ.of HE.out⟩

theorem dis_eq (l : List Rec.R) : disUp (Rec.srt l) (Rec.srt l).length = dis l := by unfold dis; rw [Rec.srt_len]
set_option maxRecDepth 100000 in
set_option maxHeartbeats 400000 in
theorem compact_nil (w : World) : Calls Try.prog 59 #[.slice none 0 0] w fun e w' => e = .returned (.slice none 0 0) ∧ w = w' := by
  go_enter Try.func59, Try.ntmps59
  go_wp2
  go_ret
  exact ⟨rfl, rfl⟩
set_option maxRecDepth 100000 in
set_option maxHeartbeats 400000 in
theorem distinct_err (v : Value) (l : List Rec.R) (w : World) (hv : RP w v l) (hl : l.length ≤ 1000000) (hm : Rec.may l ≠ 0) :
    Calls Try.prog 33 #[v] w fun e w' => e = .returned (.tuple #[.slice none 0 0, .int .i64 (Rec.may l)]) ∧ Ext w w' := by
  have HS := Lib.hid (sort_err v l w hv hl hm)
  obtain ⟨A, c, rfl⟩ := hv.form
  generalize Rec.may l = m at *
  clear hv hm
  go_enter Try.func33, Try.ntmps33
  go_wp2_with fail
  refine HS.out.mono ?_
  rintro e w1 ⟨rfl, he1⟩
  go_wp2_with fail
  refine (compact_nil _).mono ?_
  rintro e w2 ⟨rfl, rfl⟩
  go_wp2
  go_ret2
  exact ⟨rfl, he1⟩
set_option maxRecDepth 100000 in
set_option maxHeartbeats 400000 in
theorem distinct_ok (v : Value) (l : List Rec.R) (w : World) (hv : RP w v l) (hl : l.length ≤ 1000000) (hm : Rec.may l = 0) :
    Calls Try.prog 33 #[v] w fun e w' => ∃ v', e = .returned (.tuple #[v', .int .i64 0]) ∧ OP 23 w.heap.size w' v' (dis l) ∧ Ext w w' := by
  have HS := Lib.hid (sort_ok v l w hv hl hm)
  have HC := Lib.hid (fun v1 w1 (h : OE 23 w.heap.size w1 v1 (Rec.srt l)) => compact_any v1 (Rec.srt l) w.heap.size w1 h (by rw [Rec.srt_len]; exact hl))
  rw [dis_eq] at HC
  obtain ⟨A, c, rfl⟩ := hv.form
  generalize Rec.srt l = S at *
  clear hv hm
  go_enter Try.func33, Try.ntmps33
  go_wp2_with fail
  refine HS.out.mono ?_
  rintro e w1 ⟨v1, rfl, ho1, he1⟩
  have HO1 := Lib.hid ho1
  obtain ⟨A1, c1, rfl⟩ := ho1.rp.form
  have HX1 := Lib.hid he1
  clear ho1 he1
  go_wp2_with fail
  refine (HC.out _ _ HO1.out.oe).mono ?_
  rintro e w2 ⟨v2, rfl, ho2, hx2⟩
  go_wp2
  go_ret2
  exact ⟨_, rfl, OE.op ho2, HX1.out.andQ hx2 fun k hk => (HO1.out.own.lt k hk).1⟩
end Go.Proofs.Ytgmaeeihfoicmaa
