/-
  LaAct3, packed: what the claim needs of them.
-/
import Derived.Test.YtpmgmiiidfconaaGreatDoorPz19
set_option linter.unusedVariables false
set_option linter.unusedSimpArgs false
namespace Go.Proofs.YtpmgmiiidfconaaGreatDoor
open Go.RowKit Go.Ox Go.Ox.Gr Go.Ox.Sc Go.Ox.La Go.Shelf
attribute [local irreducible] RE OE
set_option maxRecDepth 100000 in
set_option maxHeartbeats 64000000 in
theorem lact_any (x : W) (v : Value) (ns : List Int) (w : World) (hR : RE w v ns) (hl : ns.length ≤ 1000000) :
    Calls Tryz.prog 46 #[strV x, v] w fun e w' => ∃ (g : Sc.Act) (u : Value), mkAct x ns = g ∧ e = .returned (actAg g.1.1 g.1.2.1 g.1.2.2.1 g.1.2.2.2.1 g.1.2.2.2.2 u) ∧ ((u = .slice none 0 0 ∧ g.2 = []) ∨ (u = v ∧ g.2 = ns)) ∧ Ext w w' := by
  have HE := Lib.hid ((Ext.refl w).alloc (actCs 0 0 0 0 0 (.slice none 0 0)))
  have HQ2 := Lib.hid (Bx6.new w 24 (.int .i64 0) (.int .i64 0) (.int .i64 0) (.int .i64 0) (.int .i64 0) (.slice none 0 0))
  have HO := Lib.hid hR
  obtain ⟨AN, cN, rfl⟩ := hR.form
  have HNL := Lib.hid hl
  obtain ⟨q, hq⟩ : ∃ q, q = w.heap.size := ⟨_, rfl⟩
  have HQ := Lib.hid hq
  clear hR hl
  go_enter Tryz.func46, Tryz.ntmps46
  go_upto_region 1 with fail
  rw [← hq] at HQ2 ⊢
  clear hq
  generalize w.alloc (actCs 0 0 0 0 0 (.slice none 0 0)) = w2 at *
  by_cases g0 : x = [112, 105, 99, 107]
  · by_cases hl : ns.length = 2
    · skip
      have e0 : ((⟨x.toArray⟩ : ByteArray) == ⟨#[112, 105, 99, 107]⟩) = true := bs_t g0
      have e1 : ((⟨x.toArray⟩ : ByteArray) == ⟨#[115, 116, 111, 112]⟩) = false := bs_f (y := [115, 116, 111, 112]) (by rw [g0]; decide)
      have m1 : ¬ (⟨x.toArray⟩ : ByteArray) = ⟨#[115, 116, 111, 112]⟩ := bs_n (y := [115, 116, 111, 112]) (by rw [g0]; decide)
      have e2 : ((⟨x.toArray⟩ : ByteArray) == ⟨#[99, 114, 97, 115, 104]⟩) = false := bs_f (y := [99, 114, 97, 115, 104]) (by rw [g0]; decide)
      have m2 : ¬ (⟨x.toArray⟩ : ByteArray) = ⟨#[99, 114, 97, 115, 104]⟩ := bs_n (y := [99, 114, 97, 115, 104]) (by rw [g0]; decide)
      have e3 : ((⟨x.toArray⟩ : ByteArray) == ⟨#[102, 108, 105, 112]⟩) = false := bs_f (y := [102, 108, 105, 112]) (by rw [g0]; decide)
      have m3 : ¬ (⟨x.toArray⟩ : ByteArray) = ⟨#[102, 108, 105, 112]⟩ := bs_n (y := [102, 108, 105, 112]) (by rw [g0]; decide)
      have e4 : ((⟨x.toArray⟩ : ByteArray) == ⟨#[114, 117, 110]⟩) = false := bs_f (y := [114, 117, 110]) (by rw [g0]; decide)
      have m4 : ¬ (⟨x.toArray⟩ : ByteArray) = ⟨#[114, 117, 110]⟩ := bs_n (y := [114, 117, 110]) (by rw [g0]; decide)
      rw [hl] at HO ⊢
      obtain ⟨n0, n1, rfl⟩ : ∃ n0 n1 : Int, ns = [n0, n1] := by match ns, hl with | [n0, n1], _ => exact ⟨n0, n1, rfl⟩
      obtain ⟨bn, on, rfl, i0⟩ := reI1 (RE.ext HO.out HE.out) (k := 0) (by simp)
      have i0 : w2.cell? ⟨bn, on, none⟩ = some (.int .i64 n0) := i0
      have i1 : w2.cell? ⟨bn, on + 1, none⟩ = some (.int .i64 n1) := by
        obtain ⟨bm, om, hm, hc⟩ := reI1 (RE.ext HO.out HE.out) (k := 1) (by simp)
        cases hm
        exact hc
      have HM := Lib.hid (show mkAct x [n0, n1] = ((1, n0, n1, 0, 0), []) from by rw [g0]; simp [mkAct])
      have HXD := Lib.hid (show Ext w2 w2.drew from (Ext.refl w2).drew)
      have HQ3 := Lib.hid (HQ2.out.ext HXD.out)
      have HE3 := Lib.hid (HE.out.trans HXD.out)
      have f0 : (w2.drew).frozen? ⟨q, 0, none⟩ = false := HQ3.out.b.frozen 0
      have f1 : (w2.drew).frozen? ⟨q, 1, none⟩ = false := HQ3.out.b.frozen 1
      have f2 : (w2.drew).frozen? ⟨q, 2, none⟩ = false := HQ3.out.b.frozen 2
      have f3 : (w2.drew).frozen? ⟨q, 3, none⟩ = false := HQ3.out.b.frozen 3
      have f4 : (w2.drew).frozen? ⟨q, 4, none⟩ = false := HQ3.out.b.frozen 4
      have f5 : (w2.drew).frozen? ⟨q, 5, none⟩ = false := HQ3.out.b.frozen 5
      obtain ⟨d0, d1, d2, d3, d4, d5⟩ := HQ3.out.at_
      have HF3 := Lib.hid (HQ3.out.fill (.int .i64 1) (.int .i64 n0) (.int .i64 n1) (.int .i64 0) (.int .i64 0) (.slice none 0 0))
      have HE5 := Lib.hid (HE3.out.andQ (extQ6 (ExtQ.refl (fun k => k = q) (w2.drew)) (q := q) rfl (.int .i64 1) (.int .i64 n0) (.int .i64 n1) (.int .i64 0) (.int .i64 0) (.slice none 0 0)) (fun k hk => by have h1 : k = q := hk; have := HQ.out; omega))
      go_wp2
      go_still_tail 7, (by kernel_rfl)
      change wpList _ _ _ _ _ w2.drew
      generalize w2.drew = w8 at *
      go_wp2
      generalize ((((((w8).setCell ⟨q, 0, none⟩ (.int .i64 1)).setCell ⟨q, 1, none⟩ (.int .i64 n0)).setCell ⟨q, 2, none⟩ (.int .i64 n1)).setCell ⟨q, 3, none⟩ (.int .i64 0)).setCell ⟨q, 4, none⟩ (.int .i64 0)).setCell ⟨q, 5, none⟩ (.slice none 0 0) = w5 at *
      obtain ⟨y0, y1, y2, y3, y4, y5⟩ := HF3.out.at_
      exact bodyPost_ret (v := .agg #[.int .i64 1, .int .i64 n0, .int .i64 n1, .int .i64 0, .int .i64 0, .slice none 0 0]) (by simp [results, Tryz.results46, go_sem, y0, y1, y2, y3, y4, y5]) rfl ⟨((1, n0, n1, 0, 0), []), _, HM.out, rfl, .inl ⟨rfl, rfl⟩, HE5.out⟩
    · skip
      have e0 : ((⟨x.toArray⟩ : ByteArray) == ⟨#[112, 105, 99, 107]⟩) = true := bs_t g0
      have e1 : ((⟨x.toArray⟩ : ByteArray) == ⟨#[115, 116, 111, 112]⟩) = false := bs_f (y := [115, 116, 111, 112]) (by rw [g0]; decide)
      have m1 : ¬ (⟨x.toArray⟩ : ByteArray) = ⟨#[115, 116, 111, 112]⟩ := bs_n (y := [115, 116, 111, 112]) (by rw [g0]; decide)
      have e2 : ((⟨x.toArray⟩ : ByteArray) == ⟨#[99, 114, 97, 115, 104]⟩) = false := bs_f (y := [99, 114, 97, 115, 104]) (by rw [g0]; decide)
      have m2 : ¬ (⟨x.toArray⟩ : ByteArray) = ⟨#[99, 114, 97, 115, 104]⟩ := bs_n (y := [99, 114, 97, 115, 104]) (by rw [g0]; decide)
      have e3 : ((⟨x.toArray⟩ : ByteArray) == ⟨#[102, 108, 105, 112]⟩) = false := bs_f (y := [102, 108, 105, 112]) (by rw [g0]; decide)
      have m3 : ¬ (⟨x.toArray⟩ : ByteArray) = ⟨#[102, 108, 105, 112]⟩ := bs_n (y := [102, 108, 105, 112]) (by rw [g0]; decide)
      have e4 : ((⟨x.toArray⟩ : ByteArray) == ⟨#[114, 117, 110]⟩) = false := bs_f (y := [114, 117, 110]) (by rw [g0]; decide)
      have m4 : ¬ (⟨x.toArray⟩ : ByteArray) = ⟨#[114, 117, 110]⟩ := bs_n (y := [114, 117, 110]) (by rw [g0]; decide)
      have hl2 : ¬ (ns.length : Int) = 2 := by omega
      have HM := Lib.hid (show mkAct x ns = ((0, 0, 0, 0, 0), []) from by rw [g0]; simp [mkAct, hl])
      have HXD := Lib.hid (show Ext w2 w2 from Ext.refl w2)
      have HQ3 := Lib.hid (HQ2.out.ext HXD.out)
      have HE3 := Lib.hid (HE.out.trans HXD.out)
      have f0 : (w2).frozen? ⟨q, 0, none⟩ = false := HQ3.out.b.frozen 0
      have f1 : (w2).frozen? ⟨q, 1, none⟩ = false := HQ3.out.b.frozen 1
      have f2 : (w2).frozen? ⟨q, 2, none⟩ = false := HQ3.out.b.frozen 2
      have f3 : (w2).frozen? ⟨q, 3, none⟩ = false := HQ3.out.b.frozen 3
      have f4 : (w2).frozen? ⟨q, 4, none⟩ = false := HQ3.out.b.frozen 4
      have f5 : (w2).frozen? ⟨q, 5, none⟩ = false := HQ3.out.b.frozen 5
      obtain ⟨d0, d1, d2, d3, d4, d5⟩ := HQ3.out.at_
      have HF3 := Lib.hid (HQ3.out.fill (.int .i64 0) (.int .i64 0) (.int .i64 0) (.int .i64 0) (.int .i64 0) (.slice none 0 0))
      have HE5 := Lib.hid (HE3.out.andQ (extQ6 (ExtQ.refl (fun k => k = q) (w2)) (q := q) rfl (.int .i64 0) (.int .i64 0) (.int .i64 0) (.int .i64 0) (.int .i64 0) (.slice none 0 0)) (fun k hk => by have h1 : k = q := hk; have := HQ.out; omega))
      go_wp2
      generalize ((((((w2).setCell ⟨q, 0, none⟩ (.int .i64 0)).setCell ⟨q, 1, none⟩ (.int .i64 0)).setCell ⟨q, 2, none⟩ (.int .i64 0)).setCell ⟨q, 3, none⟩ (.int .i64 0)).setCell ⟨q, 4, none⟩ (.int .i64 0)).setCell ⟨q, 5, none⟩ (.slice none 0 0) = w5 at *
      obtain ⟨y0, y1, y2, y3, y4, y5⟩ := HF3.out.at_
      exact bodyPost_ret (v := .agg #[.int .i64 0, .int .i64 0, .int .i64 0, .int .i64 0, .int .i64 0, .slice none 0 0]) (by simp [results, Tryz.results46, go_sem, y0, y1, y2, y3, y4, y5]) rfl ⟨((0, 0, 0, 0, 0), []), _, HM.out, rfl, .inl ⟨rfl, rfl⟩, HE5.out⟩
  by_cases g1 : x = [115, 116, 111, 112]
  · by_cases hl : ns.length = 1
    · skip
      have e0 : ((⟨x.toArray⟩ : ByteArray) == ⟨#[112, 105, 99, 107]⟩) = false := bs_f (y := [112, 105, 99, 107]) (by rw [g1]; decide)
      have m0 : ¬ (⟨x.toArray⟩ : ByteArray) = ⟨#[112, 105, 99, 107]⟩ := bs_n (y := [112, 105, 99, 107]) (by rw [g1]; decide)
      have e1 : ((⟨x.toArray⟩ : ByteArray) == ⟨#[115, 116, 111, 112]⟩) = true := bs_t g1
      have e2 : ((⟨x.toArray⟩ : ByteArray) == ⟨#[99, 114, 97, 115, 104]⟩) = false := bs_f (y := [99, 114, 97, 115, 104]) (by rw [g1]; decide)
      have m2 : ¬ (⟨x.toArray⟩ : ByteArray) = ⟨#[99, 114, 97, 115, 104]⟩ := bs_n (y := [99, 114, 97, 115, 104]) (by rw [g1]; decide)
      have e3 : ((⟨x.toArray⟩ : ByteArray) == ⟨#[102, 108, 105, 112]⟩) = false := bs_f (y := [102, 108, 105, 112]) (by rw [g1]; decide)
      have m3 : ¬ (⟨x.toArray⟩ : ByteArray) = ⟨#[102, 108, 105, 112]⟩ := bs_n (y := [102, 108, 105, 112]) (by rw [g1]; decide)
      have e4 : ((⟨x.toArray⟩ : ByteArray) == ⟨#[114, 117, 110]⟩) = false := bs_f (y := [114, 117, 110]) (by rw [g1]; decide)
      have m4 : ¬ (⟨x.toArray⟩ : ByteArray) = ⟨#[114, 117, 110]⟩ := bs_n (y := [114, 117, 110]) (by rw [g1]; decide)
      rw [hl] at HO ⊢
      obtain ⟨n0, rfl⟩ : ∃ n0 : Int, ns = [n0] := by match ns, hl with | [n0], _ => exact ⟨n0, rfl⟩
      obtain ⟨bn, on, rfl, i0⟩ := reI1 (RE.ext HO.out HE.out) (k := 0) (by simp)
      have i0 : w2.cell? ⟨bn, on, none⟩ = some (.int .i64 n0) := i0
      have HM := Lib.hid (show mkAct x [n0] = ((2, n0, 0, 0, 0), []) from by rw [g1]; simp [mkAct])
      have HXD := Lib.hid (show Ext w2 w2 from Ext.refl w2)
      have HQ3 := Lib.hid (HQ2.out.ext HXD.out)
      have HE3 := Lib.hid (HE.out.trans HXD.out)
      have f0 : (w2).frozen? ⟨q, 0, none⟩ = false := HQ3.out.b.frozen 0
      have f1 : (w2).frozen? ⟨q, 1, none⟩ = false := HQ3.out.b.frozen 1
      have f2 : (w2).frozen? ⟨q, 2, none⟩ = false := HQ3.out.b.frozen 2
      have f3 : (w2).frozen? ⟨q, 3, none⟩ = false := HQ3.out.b.frozen 3
      have f4 : (w2).frozen? ⟨q, 4, none⟩ = false := HQ3.out.b.frozen 4
      have f5 : (w2).frozen? ⟨q, 5, none⟩ = false := HQ3.out.b.frozen 5
      obtain ⟨d0, d1, d2, d3, d4, d5⟩ := HQ3.out.at_
      have HF3 := Lib.hid (HQ3.out.fill (.int .i64 2) (.int .i64 n0) (.int .i64 0) (.int .i64 0) (.int .i64 0) (.slice none 0 0))
      have HE5 := Lib.hid (HE3.out.andQ (extQ6 (ExtQ.refl (fun k => k = q) (w2)) (q := q) rfl (.int .i64 2) (.int .i64 n0) (.int .i64 0) (.int .i64 0) (.int .i64 0) (.slice none 0 0)) (fun k hk => by have h1 : k = q := hk; have := HQ.out; omega))
      go_wp2
      generalize ((((((w2).setCell ⟨q, 0, none⟩ (.int .i64 2)).setCell ⟨q, 1, none⟩ (.int .i64 n0)).setCell ⟨q, 2, none⟩ (.int .i64 0)).setCell ⟨q, 3, none⟩ (.int .i64 0)).setCell ⟨q, 4, none⟩ (.int .i64 0)).setCell ⟨q, 5, none⟩ (.slice none 0 0) = w5 at *
      obtain ⟨y0, y1, y2, y3, y4, y5⟩ := HF3.out.at_
      exact bodyPost_ret (v := .agg #[.int .i64 2, .int .i64 n0, .int .i64 0, .int .i64 0, .int .i64 0, .slice none 0 0]) (by simp [results, Tryz.results46, go_sem, y0, y1, y2, y3, y4, y5]) rfl ⟨((2, n0, 0, 0, 0), []), _, HM.out, rfl, .inl ⟨rfl, rfl⟩, HE5.out⟩
    · skip
      have e0 : ((⟨x.toArray⟩ : ByteArray) == ⟨#[112, 105, 99, 107]⟩) = false := bs_f (y := [112, 105, 99, 107]) (by rw [g1]; decide)
      have m0 : ¬ (⟨x.toArray⟩ : ByteArray) = ⟨#[112, 105, 99, 107]⟩ := bs_n (y := [112, 105, 99, 107]) (by rw [g1]; decide)
      have e1 : ((⟨x.toArray⟩ : ByteArray) == ⟨#[115, 116, 111, 112]⟩) = true := bs_t g1
      have e2 : ((⟨x.toArray⟩ : ByteArray) == ⟨#[99, 114, 97, 115, 104]⟩) = false := bs_f (y := [99, 114, 97, 115, 104]) (by rw [g1]; decide)
      have m2 : ¬ (⟨x.toArray⟩ : ByteArray) = ⟨#[99, 114, 97, 115, 104]⟩ := bs_n (y := [99, 114, 97, 115, 104]) (by rw [g1]; decide)
      have e3 : ((⟨x.toArray⟩ : ByteArray) == ⟨#[102, 108, 105, 112]⟩) = false := bs_f (y := [102, 108, 105, 112]) (by rw [g1]; decide)
      have m3 : ¬ (⟨x.toArray⟩ : ByteArray) = ⟨#[102, 108, 105, 112]⟩ := bs_n (y := [102, 108, 105, 112]) (by rw [g1]; decide)
      have e4 : ((⟨x.toArray⟩ : ByteArray) == ⟨#[114, 117, 110]⟩) = false := bs_f (y := [114, 117, 110]) (by rw [g1]; decide)
      have m4 : ¬ (⟨x.toArray⟩ : ByteArray) = ⟨#[114, 117, 110]⟩ := bs_n (y := [114, 117, 110]) (by rw [g1]; decide)
      have hl2 : ¬ (ns.length : Int) = 1 := by omega
      have HM := Lib.hid (show mkAct x ns = ((0, 0, 0, 0, 0), []) from by rw [g1]; simp [mkAct, hl])
      have HXD := Lib.hid (show Ext w2 w2 from Ext.refl w2)
      have HQ3 := Lib.hid (HQ2.out.ext HXD.out)
      have HE3 := Lib.hid (HE.out.trans HXD.out)
      have f0 : (w2).frozen? ⟨q, 0, none⟩ = false := HQ3.out.b.frozen 0
      have f1 : (w2).frozen? ⟨q, 1, none⟩ = false := HQ3.out.b.frozen 1
      have f2 : (w2).frozen? ⟨q, 2, none⟩ = false := HQ3.out.b.frozen 2
      have f3 : (w2).frozen? ⟨q, 3, none⟩ = false := HQ3.out.b.frozen 3
      have f4 : (w2).frozen? ⟨q, 4, none⟩ = false := HQ3.out.b.frozen 4
      have f5 : (w2).frozen? ⟨q, 5, none⟩ = false := HQ3.out.b.frozen 5
      obtain ⟨d0, d1, d2, d3, d4, d5⟩ := HQ3.out.at_
      have HF3 := Lib.hid (HQ3.out.fill (.int .i64 0) (.int .i64 0) (.int .i64 0) (.int .i64 0) (.int .i64 0) (.slice none 0 0))
      have HE5 := Lib.hid (HE3.out.andQ (extQ6 (ExtQ.refl (fun k => k = q) (w2)) (q := q) rfl (.int .i64 0) (.int .i64 0) (.int .i64 0) (.int .i64 0) (.int .i64 0) (.slice none 0 0)) (fun k hk => by have h1 : k = q := hk; have := HQ.out; omega))
      go_wp2
      generalize ((((((w2).setCell ⟨q, 0, none⟩ (.int .i64 0)).setCell ⟨q, 1, none⟩ (.int .i64 0)).setCell ⟨q, 2, none⟩ (.int .i64 0)).setCell ⟨q, 3, none⟩ (.int .i64 0)).setCell ⟨q, 4, none⟩ (.int .i64 0)).setCell ⟨q, 5, none⟩ (.slice none 0 0) = w5 at *
      obtain ⟨y0, y1, y2, y3, y4, y5⟩ := HF3.out.at_
      exact bodyPost_ret (v := .agg #[.int .i64 0, .int .i64 0, .int .i64 0, .int .i64 0, .int .i64 0, .slice none 0 0]) (by simp [results, Tryz.results46, go_sem, y0, y1, y2, y3, y4, y5]) rfl ⟨((0, 0, 0, 0, 0), []), _, HM.out, rfl, .inl ⟨rfl, rfl⟩, HE5.out⟩
  by_cases g2 : x = [99, 114, 97, 115, 104]
  · skip
    have e0 : ((⟨x.toArray⟩ : ByteArray) == ⟨#[112, 105, 99, 107]⟩) = false := bs_f (y := [112, 105, 99, 107]) (by rw [g2]; decide)
    have m0 : ¬ (⟨x.toArray⟩ : ByteArray) = ⟨#[112, 105, 99, 107]⟩ := bs_n (y := [112, 105, 99, 107]) (by rw [g2]; decide)
    have e1 : ((⟨x.toArray⟩ : ByteArray) == ⟨#[115, 116, 111, 112]⟩) = false := bs_f (y := [115, 116, 111, 112]) (by rw [g2]; decide)
    have m1 : ¬ (⟨x.toArray⟩ : ByteArray) = ⟨#[115, 116, 111, 112]⟩ := bs_n (y := [115, 116, 111, 112]) (by rw [g2]; decide)
    have e2 : ((⟨x.toArray⟩ : ByteArray) == ⟨#[99, 114, 97, 115, 104]⟩) = true := bs_t g2
    have e3 : ((⟨x.toArray⟩ : ByteArray) == ⟨#[102, 108, 105, 112]⟩) = false := bs_f (y := [102, 108, 105, 112]) (by rw [g2]; decide)
    have m3 : ¬ (⟨x.toArray⟩ : ByteArray) = ⟨#[102, 108, 105, 112]⟩ := bs_n (y := [102, 108, 105, 112]) (by rw [g2]; decide)
    have e4 : ((⟨x.toArray⟩ : ByteArray) == ⟨#[114, 117, 110]⟩) = false := bs_f (y := [114, 117, 110]) (by rw [g2]; decide)
    have m4 : ¬ (⟨x.toArray⟩ : ByteArray) = ⟨#[114, 117, 110]⟩ := bs_n (y := [114, 117, 110]) (by rw [g2]; decide)
    have HM := Lib.hid (show mkAct x ns = ((3, 0, 0, 0, 0), ns) from by rw [g2]; simp [mkAct])
    have HXD := Lib.hid (show Ext w2 w2 from Ext.refl w2)
    have HQ3 := Lib.hid (HQ2.out.ext HXD.out)
    have HE3 := Lib.hid (HE.out.trans HXD.out)
    have f0 : (w2).frozen? ⟨q, 0, none⟩ = false := HQ3.out.b.frozen 0
    have f1 : (w2).frozen? ⟨q, 1, none⟩ = false := HQ3.out.b.frozen 1
    have f2 : (w2).frozen? ⟨q, 2, none⟩ = false := HQ3.out.b.frozen 2
    have f3 : (w2).frozen? ⟨q, 3, none⟩ = false := HQ3.out.b.frozen 3
    have f4 : (w2).frozen? ⟨q, 4, none⟩ = false := HQ3.out.b.frozen 4
    have f5 : (w2).frozen? ⟨q, 5, none⟩ = false := HQ3.out.b.frozen 5
    obtain ⟨d0, d1, d2, d3, d4, d5⟩ := HQ3.out.at_
    have HF3 := Lib.hid (HQ3.out.fill (.int .i64 3) (.int .i64 0) (.int .i64 0) (.int .i64 0) (.int .i64 0) (.slice AN ns.length cN))
    have HE5 := Lib.hid (HE3.out.andQ (extQ6 (ExtQ.refl (fun k => k = q) (w2)) (q := q) rfl (.int .i64 3) (.int .i64 0) (.int .i64 0) (.int .i64 0) (.int .i64 0) (.slice AN ns.length cN)) (fun k hk => by have h1 : k = q := hk; have := HQ.out; omega))
    go_wp2
    generalize ((((((w2).setCell ⟨q, 0, none⟩ (.int .i64 3)).setCell ⟨q, 1, none⟩ (.int .i64 0)).setCell ⟨q, 2, none⟩ (.int .i64 0)).setCell ⟨q, 3, none⟩ (.int .i64 0)).setCell ⟨q, 4, none⟩ (.int .i64 0)).setCell ⟨q, 5, none⟩ (.slice AN ns.length cN) = w5 at *
    obtain ⟨y0, y1, y2, y3, y4, y5⟩ := HF3.out.at_
    exact bodyPost_ret (v := .agg #[.int .i64 3, .int .i64 0, .int .i64 0, .int .i64 0, .int .i64 0, .slice AN ns.length cN]) (by simp [results, Tryz.results46, go_sem, y0, y1, y2, y3, y4, y5]) rfl ⟨((3, 0, 0, 0, 0), ns), _, HM.out, rfl, .inr ⟨rfl, rfl⟩, HE5.out⟩
  by_cases g3 : x = [102, 108, 105, 112]
  · by_cases hl : ns.length = 4
    · skip
      have e0 : ((⟨x.toArray⟩ : ByteArray) == ⟨#[112, 105, 99, 107]⟩) = false := bs_f (y := [112, 105, 99, 107]) (by rw [g3]; decide)
      have m0 : ¬ (⟨x.toArray⟩ : ByteArray) = ⟨#[112, 105, 99, 107]⟩ := bs_n (y := [112, 105, 99, 107]) (by rw [g3]; decide)
      have e1 : ((⟨x.toArray⟩ : ByteArray) == ⟨#[115, 116, 111, 112]⟩) = false := bs_f (y := [115, 116, 111, 112]) (by rw [g3]; decide)
      have m1 : ¬ (⟨x.toArray⟩ : ByteArray) = ⟨#[115, 116, 111, 112]⟩ := bs_n (y := [115, 116, 111, 112]) (by rw [g3]; decide)
      have e2 : ((⟨x.toArray⟩ : ByteArray) == ⟨#[99, 114, 97, 115, 104]⟩) = false := bs_f (y := [99, 114, 97, 115, 104]) (by rw [g3]; decide)
      have m2 : ¬ (⟨x.toArray⟩ : ByteArray) = ⟨#[99, 114, 97, 115, 104]⟩ := bs_n (y := [99, 114, 97, 115, 104]) (by rw [g3]; decide)
      have e3 : ((⟨x.toArray⟩ : ByteArray) == ⟨#[102, 108, 105, 112]⟩) = true := bs_t g3
      have e4 : ((⟨x.toArray⟩ : ByteArray) == ⟨#[114, 117, 110]⟩) = false := bs_f (y := [114, 117, 110]) (by rw [g3]; decide)
      have m4 : ¬ (⟨x.toArray⟩ : ByteArray) = ⟨#[114, 117, 110]⟩ := bs_n (y := [114, 117, 110]) (by rw [g3]; decide)
      rw [hl] at HO ⊢
      obtain ⟨n0, n1, n2, n3, rfl⟩ : ∃ n0 n1 n2 n3 : Int, ns = [n0, n1, n2, n3] := by match ns, hl with | [n0, n1, n2, n3], _ => exact ⟨n0, n1, n2, n3, rfl⟩
      obtain ⟨bn, on, rfl, i0⟩ := reI1 (RE.ext HO.out HE.out) (k := 0) (by simp)
      have i0 : w2.cell? ⟨bn, on, none⟩ = some (.int .i64 n0) := i0
      have i1 : w2.cell? ⟨bn, on + 1, none⟩ = some (.int .i64 n1) := by
        obtain ⟨bm, om, hm, hc⟩ := reI1 (RE.ext HO.out HE.out) (k := 1) (by simp)
        cases hm
        exact hc
      have i2 : w2.cell? ⟨bn, on + 2, none⟩ = some (.int .i64 n2) := by
        obtain ⟨bm, om, hm, hc⟩ := reI1 (RE.ext HO.out HE.out) (k := 2) (by simp)
        cases hm
        exact hc
      have i3 : w2.cell? ⟨bn, on + 3, none⟩ = some (.int .i64 n3) := by
        obtain ⟨bm, om, hm, hc⟩ := reI1 (RE.ext HO.out HE.out) (k := 3) (by simp)
        cases hm
        exact hc
      have HM := Lib.hid (show mkAct x [n0, n1, n2, n3] = ((4, n1, n0, n2, n3), []) from by rw [g3]; simp [mkAct])
      have HXD := Lib.hid (show Ext w2 w2.drew from (Ext.refl w2).drew)
      have HQ3 := Lib.hid (HQ2.out.ext HXD.out)
      have HE3 := Lib.hid (HE.out.trans HXD.out)
      have f0 : (w2.drew).frozen? ⟨q, 0, none⟩ = false := HQ3.out.b.frozen 0
      have f1 : (w2.drew).frozen? ⟨q, 1, none⟩ = false := HQ3.out.b.frozen 1
      have f2 : (w2.drew).frozen? ⟨q, 2, none⟩ = false := HQ3.out.b.frozen 2
      have f3 : (w2.drew).frozen? ⟨q, 3, none⟩ = false := HQ3.out.b.frozen 3
      have f4 : (w2.drew).frozen? ⟨q, 4, none⟩ = false := HQ3.out.b.frozen 4
      have f5 : (w2.drew).frozen? ⟨q, 5, none⟩ = false := HQ3.out.b.frozen 5
      obtain ⟨d0, d1, d2, d3, d4, d5⟩ := HQ3.out.at_
      have HF3 := Lib.hid (HQ3.out.fill (.int .i64 4) (.int .i64 n1) (.int .i64 n0) (.int .i64 n2) (.int .i64 n3) (.slice none 0 0))
      have HE5 := Lib.hid (HE3.out.andQ (extQ6 (ExtQ.refl (fun k => k = q) (w2.drew)) (q := q) rfl (.int .i64 4) (.int .i64 n1) (.int .i64 n0) (.int .i64 n2) (.int .i64 n3) (.slice none 0 0)) (fun k hk => by have h1 : k = q := hk; have := HQ.out; omega))
      go_wp2
      go_still_tail 13, (by kernel_rfl)
      change wpList _ _ _ _ _ w2.drew
      generalize w2.drew = w8 at *
      go_wp2
      generalize ((((((w8).setCell ⟨q, 0, none⟩ (.int .i64 4)).setCell ⟨q, 1, none⟩ (.int .i64 n1)).setCell ⟨q, 2, none⟩ (.int .i64 n0)).setCell ⟨q, 3, none⟩ (.int .i64 n2)).setCell ⟨q, 4, none⟩ (.int .i64 n3)).setCell ⟨q, 5, none⟩ (.slice none 0 0) = w5 at *
      obtain ⟨y0, y1, y2, y3, y4, y5⟩ := HF3.out.at_
      exact bodyPost_ret (v := .agg #[.int .i64 4, .int .i64 n1, .int .i64 n0, .int .i64 n2, .int .i64 n3, .slice none 0 0]) (by simp [results, Tryz.results46, go_sem, y0, y1, y2, y3, y4, y5]) rfl ⟨((4, n1, n0, n2, n3), []), _, HM.out, rfl, .inl ⟨rfl, rfl⟩, HE5.out⟩
    · skip
      have e0 : ((⟨x.toArray⟩ : ByteArray) == ⟨#[112, 105, 99, 107]⟩) = false := bs_f (y := [112, 105, 99, 107]) (by rw [g3]; decide)
      have m0 : ¬ (⟨x.toArray⟩ : ByteArray) = ⟨#[112, 105, 99, 107]⟩ := bs_n (y := [112, 105, 99, 107]) (by rw [g3]; decide)
      have e1 : ((⟨x.toArray⟩ : ByteArray) == ⟨#[115, 116, 111, 112]⟩) = false := bs_f (y := [115, 116, 111, 112]) (by rw [g3]; decide)
      have m1 : ¬ (⟨x.toArray⟩ : ByteArray) = ⟨#[115, 116, 111, 112]⟩ := bs_n (y := [115, 116, 111, 112]) (by rw [g3]; decide)
      have e2 : ((⟨x.toArray⟩ : ByteArray) == ⟨#[99, 114, 97, 115, 104]⟩) = false := bs_f (y := [99, 114, 97, 115, 104]) (by rw [g3]; decide)
      have m2 : ¬ (⟨x.toArray⟩ : ByteArray) = ⟨#[99, 114, 97, 115, 104]⟩ := bs_n (y := [99, 114, 97, 115, 104]) (by rw [g3]; decide)
      have e3 : ((⟨x.toArray⟩ : ByteArray) == ⟨#[102, 108, 105, 112]⟩) = true := bs_t g3
      have e4 : ((⟨x.toArray⟩ : ByteArray) == ⟨#[114, 117, 110]⟩) = false := bs_f (y := [114, 117, 110]) (by rw [g3]; decide)
      have m4 : ¬ (⟨x.toArray⟩ : ByteArray) = ⟨#[114, 117, 110]⟩ := bs_n (y := [114, 117, 110]) (by rw [g3]; decide)
      have hl2 : ¬ (ns.length : Int) = 4 := by omega
      have HM := Lib.hid (show mkAct x ns = ((0, 0, 0, 0, 0), []) from by rw [g3]; simp [mkAct, hl])
      have HXD := Lib.hid (show Ext w2 w2 from Ext.refl w2)
      have HQ3 := Lib.hid (HQ2.out.ext HXD.out)
      have HE3 := Lib.hid (HE.out.trans HXD.out)
      have f0 : (w2).frozen? ⟨q, 0, none⟩ = false := HQ3.out.b.frozen 0
      have f1 : (w2).frozen? ⟨q, 1, none⟩ = false := HQ3.out.b.frozen 1
      have f2 : (w2).frozen? ⟨q, 2, none⟩ = false := HQ3.out.b.frozen 2
      have f3 : (w2).frozen? ⟨q, 3, none⟩ = false := HQ3.out.b.frozen 3
      have f4 : (w2).frozen? ⟨q, 4, none⟩ = false := HQ3.out.b.frozen 4
      have f5 : (w2).frozen? ⟨q, 5, none⟩ = false := HQ3.out.b.frozen 5
      obtain ⟨d0, d1, d2, d3, d4, d5⟩ := HQ3.out.at_
      have HF3 := Lib.hid (HQ3.out.fill (.int .i64 0) (.int .i64 0) (.int .i64 0) (.int .i64 0) (.int .i64 0) (.slice none 0 0))
      have HE5 := Lib.hid (HE3.out.andQ (extQ6 (ExtQ.refl (fun k => k = q) (w2)) (q := q) rfl (.int .i64 0) (.int .i64 0) (.int .i64 0) (.int .i64 0) (.int .i64 0) (.slice none 0 0)) (fun k hk => by have h1 : k = q := hk; have := HQ.out; omega))
      go_wp2
      generalize ((((((w2).setCell ⟨q, 0, none⟩ (.int .i64 0)).setCell ⟨q, 1, none⟩ (.int .i64 0)).setCell ⟨q, 2, none⟩ (.int .i64 0)).setCell ⟨q, 3, none⟩ (.int .i64 0)).setCell ⟨q, 4, none⟩ (.int .i64 0)).setCell ⟨q, 5, none⟩ (.slice none 0 0) = w5 at *
      obtain ⟨y0, y1, y2, y3, y4, y5⟩ := HF3.out.at_
      exact bodyPost_ret (v := .agg #[.int .i64 0, .int .i64 0, .int .i64 0, .int .i64 0, .int .i64 0, .slice none 0 0]) (by simp [results, Tryz.results46, go_sem, y0, y1, y2, y3, y4, y5]) rfl ⟨((0, 0, 0, 0, 0), []), _, HM.out, rfl, .inl ⟨rfl, rfl⟩, HE5.out⟩
  by_cases g4 : x = [114, 117, 110]
  · by_cases hl : ns.length = 2
    · skip
      have e0 : ((⟨x.toArray⟩ : ByteArray) == ⟨#[112, 105, 99, 107]⟩) = false := bs_f (y := [112, 105, 99, 107]) (by rw [g4]; decide)
      have m0 : ¬ (⟨x.toArray⟩ : ByteArray) = ⟨#[112, 105, 99, 107]⟩ := bs_n (y := [112, 105, 99, 107]) (by rw [g4]; decide)
      have e1 : ((⟨x.toArray⟩ : ByteArray) == ⟨#[115, 116, 111, 112]⟩) = false := bs_f (y := [115, 116, 111, 112]) (by rw [g4]; decide)
      have m1 : ¬ (⟨x.toArray⟩ : ByteArray) = ⟨#[115, 116, 111, 112]⟩ := bs_n (y := [115, 116, 111, 112]) (by rw [g4]; decide)
      have e2 : ((⟨x.toArray⟩ : ByteArray) == ⟨#[99, 114, 97, 115, 104]⟩) = false := bs_f (y := [99, 114, 97, 115, 104]) (by rw [g4]; decide)
      have m2 : ¬ (⟨x.toArray⟩ : ByteArray) = ⟨#[99, 114, 97, 115, 104]⟩ := bs_n (y := [99, 114, 97, 115, 104]) (by rw [g4]; decide)
      have e3 : ((⟨x.toArray⟩ : ByteArray) == ⟨#[102, 108, 105, 112]⟩) = false := bs_f (y := [102, 108, 105, 112]) (by rw [g4]; decide)
      have m3 : ¬ (⟨x.toArray⟩ : ByteArray) = ⟨#[102, 108, 105, 112]⟩ := bs_n (y := [102, 108, 105, 112]) (by rw [g4]; decide)
      have e4 : ((⟨x.toArray⟩ : ByteArray) == ⟨#[114, 117, 110]⟩) = true := bs_t g4
      rw [hl] at HO ⊢
      obtain ⟨n0, n1, rfl⟩ : ∃ n0 n1 : Int, ns = [n0, n1] := by match ns, hl with | [n0, n1], _ => exact ⟨n0, n1, rfl⟩
      obtain ⟨bn, on, rfl, i0⟩ := reI1 (RE.ext HO.out HE.out) (k := 0) (by simp)
      have i0 : w2.cell? ⟨bn, on, none⟩ = some (.int .i64 n0) := i0
      have i1 : w2.cell? ⟨bn, on + 1, none⟩ = some (.int .i64 n1) := by
        obtain ⟨bm, om, hm, hc⟩ := reI1 (RE.ext HO.out HE.out) (k := 1) (by simp)
        cases hm
        exact hc
      have HM := Lib.hid (show mkAct x [n0, n1] = ((5, n0, n1, 0, 0), []) from by rw [g4]; simp [mkAct])
      have HXD := Lib.hid (show Ext w2 w2.drew from (Ext.refl w2).drew)
      have HQ3 := Lib.hid (HQ2.out.ext HXD.out)
      have HE3 := Lib.hid (HE.out.trans HXD.out)
      have f0 : (w2.drew).frozen? ⟨q, 0, none⟩ = false := HQ3.out.b.frozen 0
      have f1 : (w2.drew).frozen? ⟨q, 1, none⟩ = false := HQ3.out.b.frozen 1
      have f2 : (w2.drew).frozen? ⟨q, 2, none⟩ = false := HQ3.out.b.frozen 2
      have f3 : (w2.drew).frozen? ⟨q, 3, none⟩ = false := HQ3.out.b.frozen 3
      have f4 : (w2.drew).frozen? ⟨q, 4, none⟩ = false := HQ3.out.b.frozen 4
      have f5 : (w2.drew).frozen? ⟨q, 5, none⟩ = false := HQ3.out.b.frozen 5
      obtain ⟨d0, d1, d2, d3, d4, d5⟩ := HQ3.out.at_
      have HF3 := Lib.hid (HQ3.out.fill (.int .i64 5) (.int .i64 n0) (.int .i64 n1) (.int .i64 0) (.int .i64 0) (.slice none 0 0))
      have HE5 := Lib.hid (HE3.out.andQ (extQ6 (ExtQ.refl (fun k => k = q) (w2.drew)) (q := q) rfl (.int .i64 5) (.int .i64 n0) (.int .i64 n1) (.int .i64 0) (.int .i64 0) (.slice none 0 0)) (fun k hk => by have h1 : k = q := hk; have := HQ.out; omega))
      go_wp2
      go_still_tail 7, (by kernel_rfl)
      change wpList _ _ _ _ _ w2.drew
      generalize w2.drew = w8 at *
      go_wp2
      generalize ((((((w8).setCell ⟨q, 0, none⟩ (.int .i64 5)).setCell ⟨q, 1, none⟩ (.int .i64 n0)).setCell ⟨q, 2, none⟩ (.int .i64 n1)).setCell ⟨q, 3, none⟩ (.int .i64 0)).setCell ⟨q, 4, none⟩ (.int .i64 0)).setCell ⟨q, 5, none⟩ (.slice none 0 0) = w5 at *
      obtain ⟨y0, y1, y2, y3, y4, y5⟩ := HF3.out.at_
      exact bodyPost_ret (v := .agg #[.int .i64 5, .int .i64 n0, .int .i64 n1, .int .i64 0, .int .i64 0, .slice none 0 0]) (by simp [results, Tryz.results46, go_sem, y0, y1, y2, y3, y4, y5]) rfl ⟨((5, n0, n1, 0, 0), []), _, HM.out, rfl, .inl ⟨rfl, rfl⟩, HE5.out⟩
    · skip
      have e0 : ((⟨x.toArray⟩ : ByteArray) == ⟨#[112, 105, 99, 107]⟩) = false := bs_f (y := [112, 105, 99, 107]) (by rw [g4]; decide)
      have m0 : ¬ (⟨x.toArray⟩ : ByteArray) = ⟨#[112, 105, 99, 107]⟩ := bs_n (y := [112, 105, 99, 107]) (by rw [g4]; decide)
      have e1 : ((⟨x.toArray⟩ : ByteArray) == ⟨#[115, 116, 111, 112]⟩) = false := bs_f (y := [115, 116, 111, 112]) (by rw [g4]; decide)
      have m1 : ¬ (⟨x.toArray⟩ : ByteArray) = ⟨#[115, 116, 111, 112]⟩ := bs_n (y := [115, 116, 111, 112]) (by rw [g4]; decide)
      have e2 : ((⟨x.toArray⟩ : ByteArray) == ⟨#[99, 114, 97, 115, 104]⟩) = false := bs_f (y := [99, 114, 97, 115, 104]) (by rw [g4]; decide)
      have m2 : ¬ (⟨x.toArray⟩ : ByteArray) = ⟨#[99, 114, 97, 115, 104]⟩ := bs_n (y := [99, 114, 97, 115, 104]) (by rw [g4]; decide)
      have e3 : ((⟨x.toArray⟩ : ByteArray) == ⟨#[102, 108, 105, 112]⟩) = false := bs_f (y := [102, 108, 105, 112]) (by rw [g4]; decide)
      have m3 : ¬ (⟨x.toArray⟩ : ByteArray) = ⟨#[102, 108, 105, 112]⟩ := bs_n (y := [102, 108, 105, 112]) (by rw [g4]; decide)
      have e4 : ((⟨x.toArray⟩ : ByteArray) == ⟨#[114, 117, 110]⟩) = true := bs_t g4
      have hl2 : ¬ (ns.length : Int) = 2 := by omega
      have HM := Lib.hid (show mkAct x ns = ((0, 0, 0, 0, 0), []) from by rw [g4]; simp [mkAct, hl])
      have HXD := Lib.hid (show Ext w2 w2 from Ext.refl w2)
      have HQ3 := Lib.hid (HQ2.out.ext HXD.out)
      have HE3 := Lib.hid (HE.out.trans HXD.out)
      have f0 : (w2).frozen? ⟨q, 0, none⟩ = false := HQ3.out.b.frozen 0
      have f1 : (w2).frozen? ⟨q, 1, none⟩ = false := HQ3.out.b.frozen 1
      have f2 : (w2).frozen? ⟨q, 2, none⟩ = false := HQ3.out.b.frozen 2
      have f3 : (w2).frozen? ⟨q, 3, none⟩ = false := HQ3.out.b.frozen 3
      have f4 : (w2).frozen? ⟨q, 4, none⟩ = false := HQ3.out.b.frozen 4
      have f5 : (w2).frozen? ⟨q, 5, none⟩ = false := HQ3.out.b.frozen 5
      obtain ⟨d0, d1, d2, d3, d4, d5⟩ := HQ3.out.at_
      have HF3 := Lib.hid (HQ3.out.fill (.int .i64 0) (.int .i64 0) (.int .i64 0) (.int .i64 0) (.int .i64 0) (.slice none 0 0))
      have HE5 := Lib.hid (HE3.out.andQ (extQ6 (ExtQ.refl (fun k => k = q) (w2)) (q := q) rfl (.int .i64 0) (.int .i64 0) (.int .i64 0) (.int .i64 0) (.int .i64 0) (.slice none 0 0)) (fun k hk => by have h1 : k = q := hk; have := HQ.out; omega))
      go_wp2
      generalize ((((((w2).setCell ⟨q, 0, none⟩ (.int .i64 0)).setCell ⟨q, 1, none⟩ (.int .i64 0)).setCell ⟨q, 2, none⟩ (.int .i64 0)).setCell ⟨q, 3, none⟩ (.int .i64 0)).setCell ⟨q, 4, none⟩ (.int .i64 0)).setCell ⟨q, 5, none⟩ (.slice none 0 0) = w5 at *
      obtain ⟨y0, y1, y2, y3, y4, y5⟩ := HF3.out.at_
      exact bodyPost_ret (v := .agg #[.int .i64 0, .int .i64 0, .int .i64 0, .int .i64 0, .int .i64 0, .slice none 0 0]) (by simp [results, Tryz.results46, go_sem, y0, y1, y2, y3, y4, y5]) rfl ⟨((0, 0, 0, 0, 0), []), _, HM.out, rfl, .inl ⟨rfl, rfl⟩, HE5.out⟩
  have e0 : ((⟨x.toArray⟩ : ByteArray) == ⟨#[112, 105, 99, 107]⟩) = false := bs_f g0
  have m0 : ¬ (⟨x.toArray⟩ : ByteArray) = ⟨#[112, 105, 99, 107]⟩ := bs_n g0
  have r0 : (x == [112, 105, 99, 107]) = false := by rw [← Bool.not_eq_true]; exact fun h => g0 (eq_of_beq h)
  have e1 : ((⟨x.toArray⟩ : ByteArray) == ⟨#[115, 116, 111, 112]⟩) = false := bs_f g1
  have m1 : ¬ (⟨x.toArray⟩ : ByteArray) = ⟨#[115, 116, 111, 112]⟩ := bs_n g1
  have r1 : (x == [115, 116, 111, 112]) = false := by rw [← Bool.not_eq_true]; exact fun h => g1 (eq_of_beq h)
  have e2 : ((⟨x.toArray⟩ : ByteArray) == ⟨#[99, 114, 97, 115, 104]⟩) = false := bs_f g2
  have m2 : ¬ (⟨x.toArray⟩ : ByteArray) = ⟨#[99, 114, 97, 115, 104]⟩ := bs_n g2
  have r2 : (x == [99, 114, 97, 115, 104]) = false := by rw [← Bool.not_eq_true]; exact fun h => g2 (eq_of_beq h)
  have e3 : ((⟨x.toArray⟩ : ByteArray) == ⟨#[102, 108, 105, 112]⟩) = false := bs_f g3
  have m3 : ¬ (⟨x.toArray⟩ : ByteArray) = ⟨#[102, 108, 105, 112]⟩ := bs_n g3
  have r3 : (x == [102, 108, 105, 112]) = false := by rw [← Bool.not_eq_true]; exact fun h => g3 (eq_of_beq h)
  have e4 : ((⟨x.toArray⟩ : ByteArray) == ⟨#[114, 117, 110]⟩) = false := bs_f g4
  have m4 : ¬ (⟨x.toArray⟩ : ByteArray) = ⟨#[114, 117, 110]⟩ := bs_n g4
  have r4 : (x == [114, 117, 110]) = false := by rw [← Bool.not_eq_true]; exact fun h => g4 (eq_of_beq h)
  have HM := Lib.hid (show mkAct x ns = ((0, 0, 0, 0, 0), []) from by unfold mkAct; rw [if_neg (fun h => g0 h.1), if_neg (fun h => g1 h.1), if_neg g2, if_neg (fun h => g3 h.1), if_neg (fun h => g4 h.1)])
  have HXD := Lib.hid (show Ext w2 w2 from Ext.refl w2)
  have HQ3 := Lib.hid (HQ2.out.ext HXD.out)
  have HE3 := Lib.hid (HE.out.trans HXD.out)
  have f0 : (w2).frozen? ⟨q, 0, none⟩ = false := HQ3.out.b.frozen 0
  have f1 : (w2).frozen? ⟨q, 1, none⟩ = false := HQ3.out.b.frozen 1
  have f2 : (w2).frozen? ⟨q, 2, none⟩ = false := HQ3.out.b.frozen 2
  have f3 : (w2).frozen? ⟨q, 3, none⟩ = false := HQ3.out.b.frozen 3
  have f4 : (w2).frozen? ⟨q, 4, none⟩ = false := HQ3.out.b.frozen 4
  have f5 : (w2).frozen? ⟨q, 5, none⟩ = false := HQ3.out.b.frozen 5
  obtain ⟨d0, d1, d2, d3, d4, d5⟩ := HQ3.out.at_
  have HF3 := Lib.hid (HQ3.out.fill (.int .i64 0) (.int .i64 0) (.int .i64 0) (.int .i64 0) (.int .i64 0) (.slice none 0 0))
  have HE5 := Lib.hid (HE3.out.andQ (extQ6 (ExtQ.refl (fun k => k = q) (w2)) (q := q) rfl (.int .i64 0) (.int .i64 0) (.int .i64 0) (.int .i64 0) (.int .i64 0) (.slice none 0 0)) (fun k hk => by have h1 : k = q := hk; have := HQ.out; omega))
  go_wp2
  generalize ((((((w2).setCell ⟨q, 0, none⟩ (.int .i64 0)).setCell ⟨q, 1, none⟩ (.int .i64 0)).setCell ⟨q, 2, none⟩ (.int .i64 0)).setCell ⟨q, 3, none⟩ (.int .i64 0)).setCell ⟨q, 4, none⟩ (.int .i64 0)).setCell ⟨q, 5, none⟩ (.slice none 0 0) = w5 at *
  obtain ⟨y0, y1, y2, y3, y4, y5⟩ := HF3.out.at_
  exact bodyPost_ret (v := .agg #[.int .i64 0, .int .i64 0, .int .i64 0, .int .i64 0, .int .i64 0, .slice none 0 0]) (by simp [results, Tryz.results46, go_sem, y0, y1, y2, y3, y4, y5]) rfl ⟨((0, 0, 0, 0, 0), []), _, HM.out, rfl, .inl ⟨rfl, rfl⟩, HE5.out⟩
end Go.Proofs.YtpmgmiiidfconaaGreatDoor
