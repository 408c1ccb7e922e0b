/-
  The document's Covers.
-/
import Derived.Test.YtbokblklldphgaaMomRef
import Derived.Test.YtbokblklldphgaaCopy
import Derived.Test.YtbokblklldphgaaEff
namespace Go.Proofs.Ytbokblklldphgaa.Mo
open Go.RowKit Go.Ox
set_option linter.unusedVariables false
attribute [local irreducible] OP RP

theorem covers_take_s (l : List Mom.M) (m : Mom.M) (k : Nat) (h : k < l.length) : Mom.covers (l.take (k + 1)) m = (Mom.covers (l.take k) m || Mom.ahead l[k] m) := by
  unfold Mom.covers
  rw [List.take_succ_eq_append_getElem h, List.any_append]; simp
theorem covers_hit (l : List Mom.M) (m : Mom.M) (k : Nat) (h : k < l.length) (hq : Mom.ahead l[k] m = true) : Mom.covers l m = true :=
  Mom.covers_iff.2 ⟨l[k], List.getElem_mem h, hq⟩

set_option maxRecDepth 100000 in
set_option maxHeartbeats 1000000 in
theorem rcovers_any (v : Value) (l : List Mom.M) (m : Mom.M) (w : World) (hv : RP w v l) (hl : l.length ≤ 1000000000) :
    Calls Try.prog 72 #[v, mV m] w fun e w' => e = .returned (.bool (Mom.covers l m)) ∧ Ext w w' := by
  obtain ⟨A, c, rfl⟩ := hv.form
  have HV := Lib.hid hv
  obtain ⟨m1, m2⟩ := m
  have HB0 := Lib.hid (Blk.new w 29 #[.int .i64 m1, .int .i64 m2])
  have HX0 := Lib.hid ((Ext.refl w).alloc (.cells #[.int .i64 m1, .int .i64 m2] 29))
  have HA := Lib.hid (fun (x : Mom.M) (w : World) => rahead_any x (m1, m2) w)
  have HC0 := Lib.hid (show Mom.covers (l.take l.length) (m1, m2) = Mom.covers l (m1, m2) by rw [List.take_length])
  clear hv
  go_enter Try.func72, Try.ntmps72
  go_wp2
  go_loopw [5] (fun i wr => ∃ k : Nat, k ≤ l.length ∧ i = .int .i64 k ∧ Mom.covers (l.take k) (m1, m2) = false ∧ Ext (w.alloc (.cells #[.int .i64 m1, .int .i64 m2] 29)) wr) (fun i _ => l.length - (intOf i).toNat)
  case atStart => exact ⟨0, Nat.zero_le _, rfl, rfl, Ext.refl _⟩
  case round =>
    obtain ⟨k, hk, rfl, ht, hext⟩ := hrel
    have HT := Lib.hid ht
    have HX := Lib.hid hext
    clear ht
    by_cases hlt : k < l.length
    · have g1 : (k : Int) < (l.length : Int) := by omega
      have g0 : 0 ≤ (k : Int) := by omega
      obtain ⟨b1, o1, rfl, c2, c3⟩ := HV.out.at_ hlt
      have c2 := (HX0.out.trans HX.out).cell c2
      have c3 := (HX0.out.trans HX.out).cell c3
      have c0 := (HB0.out.ext HX.out).cell 0
      have c1 := (HB0.out.ext HX.out).cell 1
      have HS := Lib.hid (covers_take_s l (m1, m2) k hlt)
      have HH := Lib.hid (covers_hit l (m1, m2) k hlt)
      have HAx := Lib.hid (HA.out l[k])
      generalize l[k] = x at *
      obtain ⟨x1, x2⟩ := x
      dsimp only at *
      clear hext
      cases hq : Mom.ahead (x1, x2) (m1, m2) with
      | true =>
        rw [hq] at HAx
        have HH := Lib.hid (HH.out hq)
        clear hq
        go_wp2
        refine wp_region_ext (by kernel_rfl) (by rfl) (by rfl) (by kernel_rfl) ?_
        repeat (first | ((first | (refine wpM_move00 Ext.refl rfl rfl rfl ?_) | (refine wpM_move01 Ext.refl rfl rfl rfl rfl ?_)); apply Exists.intro; refine ⟨?_, ?_⟩; · (go_simp; rfl)) | (first | (refine wpM_movek0 Ext.refl rfl rfl rfl ?_) | (refine wpM_movek1 Ext.refl rfl rfl rfl rfl ?_)) | ((first | (refine wpM_val0 Ext.refl rfl ?_) | (refine wpM_val1 Ext.refl rfl rfl ?_)); apply Exists.intro; refine ⟨?_, ?_⟩; · (intro a w' hR; intro h1; (first | (have e1 : _ = _ := h1) | skip); intro h2; (first | (have e2 : _ = _ := h2) | skip); go_simp; rfl)) | ((first | (refine wpM_val0 Ext.refl rfl ?_) | (refine wpM_val1 Ext.refl rfl rfl ?_)); apply Exists.intro; refine ⟨?_, ?_⟩; · (intro a w' hR; intro h1; (first | (have e1 : _ = _ := h1) | skip); go_simp; rfl)) | ((first | (refine wpM_val0 Ext.refl rfl ?_) | (refine wpM_val1 Ext.refl rfl rfl ?_)); apply Exists.intro; refine ⟨?_, ?_⟩; · (intro a w' hR; go_simp; rfl)) | ((first | (refine wpM_val0 Ext.refl rfl ?_) | (refine wpM_val1 Ext.refl rfl rfl ?_)); apply Exists.intro; refine ⟨?_, ?_⟩; · (intro a w' hR; intro h1; (first | (have e1 : _ = _ := h1) | skip); intro h2; (first | (have e2 : _ = _ := h2) | skip); intro h3; (first | (have e3 : _ = _ := h3) | skip); go_simp; rfl)) | (refine wpM_skip1 rfl ?_) | (refine wpM_skipU rfl ?_))
        first | (refine wpM_val0 Ext.refl rfl ?_) | (refine wpM_val1 Ext.refl rfl rfl ?_)
        apply Exists.intro; refine ⟨?_, ?_⟩
        · intro a w' hR h1
          have e1 : _ = _ := h1
          have hl0 := hR.cell c2
          have hl1 := hR.cell c3
          go_simp
          rfl
        (first | (refine wpM_val0 Ext.refl rfl ?_) | (refine wpM_val1 Ext.refl rfl rfl ?_)); apply Exists.intro; refine ⟨?_, ?_⟩
        · intro a w' hR h1
          have e1 : _ = _ := h1
          have hl0 := hR.cell c0
          have hl1 := hR.cell c1
          go_simp
          rfl
        first | (refine wpM_call0 (fun v _ => v = .bool true) rfl (by first | exact mono_eq | exact (fun _ _ _ ⟨n, h1, h2, h3⟩ k => ⟨n, h1, h2, h3.ext k⟩) | exact (fun _ _ _ h k => RB.ext h k) | exact (fun _ _ _ h k => OB.ext h k) | exact (fun _ _ _ h k => Rd.ext h k) | exact (fun _ _ _ h k => ownsRow_ext h k) | exact (fun _ _ _ h k => RB.extC h k) | exact (fun _ _ _ h k => FB.extC h k) | exact (fun _ _ _ h k => Rd.extC h k) | exact (fun _ _ _ h k => RP.ext h k) | exact (fun _ _ _ h k => RE.ext h k)) ?_ ?_) | (refine wpM_call1 (fun v _ => v = .bool true) rfl rfl (by first | exact mono_eq | exact (fun _ _ _ ⟨n, h1, h2, h3⟩ k => ⟨n, h1, h2, h3.ext k⟩) | exact (fun _ _ _ h k => RB.ext h k) | exact (fun _ _ _ h k => OB.ext h k) | exact (fun _ _ _ h k => Rd.ext h k) | exact (fun _ _ _ h k => ownsRow_ext h k) | exact (fun _ _ _ h k => RB.extC h k) | exact (fun _ _ _ h k => FB.extC h k) | exact (fun _ _ _ h k => Rd.extC h k) | exact (fun _ _ _ h k => RP.ext h k) | exact (fun _ _ _ h k => RE.ext h k)) ?_ ?_)
        · intro a w' hR h1 h2 K hK
          have e1 : _ = _ := h1
          have e2 : _ = _ := h2
          go_simp
          refine (HAx.out w').mono ?_
          rintro e w2 ⟨rfl, he⟩
          exact hK _ _ he rfl
        refine wpM_done ?_
        intro w5 hx5
        iterate 6 (rintro _ rfl)
        dsimp only [FinV]
        go_simp
        have HX5 := Lib.hid (HX.out.trans hx5)
        clear hx5
        go_wp2
        go_ret
        exact ⟨by rw [HH.out]; rfl, HX0.out.trans HX5.out⟩
      | false =>
        rw [hq] at HAx
        have HS2 := Lib.hid (show Mom.covers (l.take (k + 1)) (m1, m2) = false by rw [HS.out, HT.out, hq]; rfl)
        clear hq
        go_wp2
        refine wp_region_ext (by kernel_rfl) (by rfl) (by rfl) (by kernel_rfl) ?_
        repeat (first | ((first | (refine wpM_move00 Ext.refl rfl rfl rfl ?_) | (refine wpM_move01 Ext.refl rfl rfl rfl rfl ?_)); apply Exists.intro; refine ⟨?_, ?_⟩; · (go_simp; rfl)) | (first | (refine wpM_movek0 Ext.refl rfl rfl rfl ?_) | (refine wpM_movek1 Ext.refl rfl rfl rfl rfl ?_)) | ((first | (refine wpM_val0 Ext.refl rfl ?_) | (refine wpM_val1 Ext.refl rfl rfl ?_)); apply Exists.intro; refine ⟨?_, ?_⟩; · (intro a w' hR; intro h1; (first | (have e1 : _ = _ := h1) | skip); intro h2; (first | (have e2 : _ = _ := h2) | skip); go_simp; rfl)) | ((first | (refine wpM_val0 Ext.refl rfl ?_) | (refine wpM_val1 Ext.refl rfl rfl ?_)); apply Exists.intro; refine ⟨?_, ?_⟩; · (intro a w' hR; intro h1; (first | (have e1 : _ = _ := h1) | skip); go_simp; rfl)) | ((first | (refine wpM_val0 Ext.refl rfl ?_) | (refine wpM_val1 Ext.refl rfl rfl ?_)); apply Exists.intro; refine ⟨?_, ?_⟩; · (intro a w' hR; go_simp; rfl)) | ((first | (refine wpM_val0 Ext.refl rfl ?_) | (refine wpM_val1 Ext.refl rfl rfl ?_)); apply Exists.intro; refine ⟨?_, ?_⟩; · (intro a w' hR; intro h1; (first | (have e1 : _ = _ := h1) | skip); intro h2; (first | (have e2 : _ = _ := h2) | skip); intro h3; (first | (have e3 : _ = _ := h3) | skip); go_simp; rfl)) | (refine wpM_skip1 rfl ?_) | (refine wpM_skipU rfl ?_))
        first | (refine wpM_val0 Ext.refl rfl ?_) | (refine wpM_val1 Ext.refl rfl rfl ?_)
        apply Exists.intro; refine ⟨?_, ?_⟩
        · intro a w' hR h1
          have e1 : _ = _ := h1
          have hl0 := hR.cell c2
          have hl1 := hR.cell c3
          go_simp
          rfl
        (first | (refine wpM_val0 Ext.refl rfl ?_) | (refine wpM_val1 Ext.refl rfl rfl ?_)); apply Exists.intro; refine ⟨?_, ?_⟩
        · intro a w' hR h1
          have e1 : _ = _ := h1
          have hl0 := hR.cell c0
          have hl1 := hR.cell c1
          go_simp
          rfl
        first | (refine wpM_call0 (fun v _ => v = .bool false) rfl (by first | exact mono_eq | exact (fun _ _ _ ⟨n, h1, h2, h3⟩ k => ⟨n, h1, h2, h3.ext k⟩) | exact (fun _ _ _ h k => RB.ext h k) | exact (fun _ _ _ h k => OB.ext h k) | exact (fun _ _ _ h k => Rd.ext h k) | exact (fun _ _ _ h k => ownsRow_ext h k) | exact (fun _ _ _ h k => RB.extC h k) | exact (fun _ _ _ h k => FB.extC h k) | exact (fun _ _ _ h k => Rd.extC h k) | exact (fun _ _ _ h k => RP.ext h k) | exact (fun _ _ _ h k => RE.ext h k)) ?_ ?_) | (refine wpM_call1 (fun v _ => v = .bool false) rfl rfl (by first | exact mono_eq | exact (fun _ _ _ ⟨n, h1, h2, h3⟩ k => ⟨n, h1, h2, h3.ext k⟩) | exact (fun _ _ _ h k => RB.ext h k) | exact (fun _ _ _ h k => OB.ext h k) | exact (fun _ _ _ h k => Rd.ext h k) | exact (fun _ _ _ h k => ownsRow_ext h k) | exact (fun _ _ _ h k => RB.extC h k) | exact (fun _ _ _ h k => FB.extC h k) | exact (fun _ _ _ h k => Rd.extC h k) | exact (fun _ _ _ h k => RP.ext h k) | exact (fun _ _ _ h k => RE.ext h k)) ?_ ?_)
        · intro a w' hR h1 h2 K hK
          have e1 : _ = _ := h1
          have e2 : _ = _ := h2
          go_simp
          refine (HAx.out w').mono ?_
          rintro e w2 ⟨rfl, he⟩
          exact hK _ _ he rfl
        refine wpM_done ?_
        intro w5 hx5
        iterate 6 (rintro _ rfl)
        dsimp only [FinV]
        go_simp
        have HX5 := Lib.hid (HX.out.trans hx5)
        clear hx5
        go_wp2
        exact ⟨⟨k + 1, by omega, by go_num, HS2.out, HX5.out⟩, by simp [intOf]; omega⟩
    · obtain rfl : k = l.length := by omega
      rw [HC0.out] at HT
      have g1 : ¬ (l.length : Int) < (l.length : Int) := by omega
      clear hext
      go_wp2
      go_ret
      exact ⟨by rw [HT.out]; rfl, HX0.out.trans HX.out⟩
end Go.Proofs.Ytbokblklldphgaa.Mo
