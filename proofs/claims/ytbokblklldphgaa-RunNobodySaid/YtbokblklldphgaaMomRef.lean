/-
  The walks of the document's answer on moments.
-/
import Derived.Test.YtbokblklldphgaaMomFn
namespace Go.Proofs.Ytbokblklldphgaa.Mo
open Go.RowKit Go.Ox Go.Shelf

/-- are two pairs one? shut to simp -/
def pairB (a b c d : Int) : Bool := decide ((a, b) = (c, d))
theorem pairB_t {a b c d : Int} (h : (a, b) = (c, d)) : pairB a b c d = true := by unfold pairB; simpa using h
theorem pairB_f {a b c d : Int} (h : (a, b) ≠ (c, d)) : pairB a b c d = false := by unfold pairB; simpa using h
theorem pairEq (a b c d : Int) : pairB a b c d = ((a == c) && (b == d)) := by
  unfold pairB; rw [Bool.eq_iff_iff]; simp
theorem eqInM (a b c d : Int) (w : World) : (Op.equalIn 10000 29 (.agg #[.int .i64 a, .int .i64 b]) (.agg #[.int .i64 c, .int .i64 d])).run Try.prog w = .ok (pairB a b c d) w := by
  have u3 := Try.underlying3
  have a3 := Try.isAgg3
  have z3 := Try.sizeOf3
  have hS : Try.prog.underlying 29 = some (.struct (Try.prog.fieldsOf 29)) := by kernel_rfl
  have hp : Try.prog.stoodInHeld 29 = false := by kernel_rfl
  rw [show (10000 : Nat) = 9999 + 1 from rfl, run_equalIn_agg w 9999 29 _ _ hS hp]
  simp only [Program.fieldsOf, Try.underlying29]
  rw [pairEq]
  go_simp
  by_cases h1 : a = c <;> by_cases h2 : b = d <;> simp [h1, h2]
theorem eqM (a b c d : Int) (w : World) : (binOp .eql 29 (.agg #[.int .i64 a, .int .i64 b]) (.agg #[.int .i64 c, .int .i64 d])).run Try.prog w = .ok (.bool (pairB a b c d)) w := by
  rw [run_eql_struct, eqInM]; rfl
theorem neM (a b c d : Int) (w : World) : (binOp .neq 29 (.agg #[.int .i64 a, .int .i64 b]) (.agg #[.int .i64 c, .int .i64 d])).run Try.prog w = .ok (.bool (!pairB a b c d)) w := by
  rw [run_neq_struct, eqInM]; rfl
theorem guardM : Try.prog.eqGuardType Try.prog.depth 29 = false := by kernel_rfl

set_option maxRecDepth 100000 in
set_option maxHeartbeats 400000 in
theorem rcheck_any (m : Mom.M) (w : World) : Calls Try.prog 70 #[mV m] w fun e w' => e = .returned (.bool (Mom.ok m)) ∧ Ext w w' := by
  obtain ⟨e, r⟩ := m
  unfold Mom.ok
  dsimp only
  by_cases h1 : 0 ≤ e
  · have d1 : decide (0 ≤ e) = true := by simpa using h1
    rw [d1, Bool.true_and]
    by_cases h2 : e < 65536
    · have d2 : decide (e < 65536) = true := by simpa using h2
      rw [d2, Bool.true_and]
      by_cases h3 : 0 ≤ r
      · have d3 : decide (0 ≤ r) = true := by simpa using h3
        rw [d3, Bool.true_and]
        by_cases h4 : r < 65536
        · have d4 : decide (r < 65536) = true := by simpa using h4
          rw [d4]
          go_enter Try.func70, Try.ntmps70
          go_wp2
          go_ret
          exact ⟨rfl, (Ext.refl _).alloc _⟩
        · have d4 : decide (r < 65536) = false := by simpa using h4
          rw [d4]
          go_enter Try.func70, Try.ntmps70
          go_wp2
          go_ret
          exact ⟨rfl, (Ext.refl _).alloc _⟩
      · have d3 : decide (0 ≤ r) = false := by simpa using h3
        rw [d3, Bool.false_and]
        go_enter Try.func70, Try.ntmps70
        go_wp2
        go_ret
        exact ⟨rfl, (Ext.refl _).alloc _⟩
    · have d2 : decide (e < 65536) = false := by simpa using h2
      rw [d2, Bool.false_and]
      go_enter Try.func70, Try.ntmps70
      go_wp2
      go_ret
      exact ⟨rfl, (Ext.refl _).alloc _⟩
  · have d1 : decide (0 ≤ e) = false := by simpa using h1
    rw [d1, Bool.false_and, Bool.false_and]
    go_enter Try.func70, Try.ntmps70
    go_wp2
    go_ret
    exact ⟨rfl, (Ext.refl _).alloc _⟩
set_option maxRecDepth 100000 in
set_option maxHeartbeats 400000 in
theorem rahead_any (a b : Mom.M) (w : World) : Calls Try.prog 54 #[mV a, mV b] w fun e w' => e = .returned (.bool (Mom.ahead a b)) ∧ Ext w w' := by
  obtain ⟨a1, a2⟩ := a
  obtain ⟨b1, b2⟩ := b
  unfold Mom.ahead
  dsimp only
  by_cases h1 : a1 ≤ b1
  · have d1 : decide (a1 ≤ b1) = true := by simpa using h1
    rw [d1, Bool.true_and]
    by_cases h2 : a2 ≤ b2
    · have d2 : decide (a2 ≤ b2) = true := by simpa using h2
      rw [d2]
      go_enter Try.func54, Try.ntmps54
      go_wp2
      go_ret
      exact ⟨rfl, ((Ext.refl _).alloc _).alloc _⟩
    · have d2 : decide (a2 ≤ b2) = false := by simpa using h2
      rw [d2]
      go_enter Try.func54, Try.ntmps54
      go_wp2
      go_ret
      exact ⟨rfl, ((Ext.refl _).alloc _).alloc _⟩
  · have d1 : decide (a1 ≤ b1) = false := by simpa using h1
    rw [d1, Bool.false_and]
    go_enter Try.func54, Try.ntmps54
    go_wp2
    go_ret
    exact ⟨rfl, ((Ext.refl _).alloc _).alloc _⟩
set_option maxRecDepth 100000 in
set_option maxHeartbeats 400000 in
theorem rcompare_any (a b : Mom.M) (w : World) : Calls Try.prog 52 #[mV a, mV b] w fun e w' => e = .returned (.int .i64 (Mom.cmp a b)) ∧ Ext w w' := by
  obtain ⟨a1, a2⟩ := a
  obtain ⟨b1, b2⟩ := b
  have hE := eqInM
  have hG := guardM
  unfold Mom.cmp
  dsimp only
  by_cases h1 : a1 < b1
  · rw [if_pos h1]
    go_enter Try.func52, Try.ntmps52
    go_wp2
    go_ret
    exact ⟨rfl, ((Ext.refl _).alloc _).alloc _⟩
  rw [if_neg h1]
  by_cases h2 : b1 < a1
  · rw [if_pos h2]
    have e1 : (a1 == b1) = false := by simp; omega
    have e2 : pairB a1 a2 b1 b2 = false := pairB_f (by simp; omega)
    go_enter Try.func52, Try.ntmps52
    go_wp2
    go_ret
    exact ⟨rfl, ((Ext.refl _).alloc _).alloc _⟩
  rw [if_neg h2]
  obtain rfl : a1 = b1 := by omega
  by_cases h3 : a2 < b2
  · rw [if_pos h3]
    go_enter Try.func52, Try.ntmps52
    go_wp2
    go_ret
    exact ⟨rfl, ((Ext.refl _).alloc _).alloc _⟩
  rw [if_neg h3]
  by_cases h4 : b2 < a2
  · rw [if_pos h4]
    have e2 : pairB a1 a2 a1 b2 = false := pairB_f (by simp; omega)
    go_enter Try.func52, Try.ntmps52
    go_wp2
    go_ret
    exact ⟨rfl, ((Ext.refl _).alloc _).alloc _⟩
  rw [if_neg h4]
  obtain rfl : a2 = b2 := by omega
  have e2 : pairB a1 a2 a1 a2 = true := pairB_t rfl
  go_enter Try.func52, Try.ntmps52
  go_wp2
  go_ret
  exact ⟨rfl, ((Ext.refl _).alloc _).alloc _⟩

set_option maxRecDepth 100000 in
set_option maxHeartbeats 400000 in
theorem same_len (A B : Option Addr) (n m c d : Nat) (w : World) (hne : n ≠ m) : Calls Try.prog 21 #[.slice A n c, .slice B m d] w fun e w' => e = .returned (.bool false) ∧ w = w' := by
  have h1 : ((n : Int) != (m : Int)) = true := by rw [bne_iff_ne]; omega
  go_enter Try.func21, Try.ntmps21
  go_wp2
  go_ret
  exact ⟨rfl, rfl⟩
set_option maxRecDepth 100000 in
set_option maxHeartbeats 400000 in
theorem same_any (v u : Value) (l r : List Mom.M) (w : World) (hv : RP w v l) (hu : RP w u r) : Calls Try.prog 21 #[v, u] w fun e w' => e = .returned (.bool (decide (l = r))) ∧ Ext w w' := by
  obtain ⟨A, c, rfl⟩ := hv.form
  obtain ⟨B, d, rfl⟩ := hu.form
  by_cases hl : l.length = r.length
  · have HV := Lib.hid hv
    have HU := Lib.hid hu
    have HL := Lib.hid hl
    have hlb : l.length ≤ 9223372036854775807 := by have := hv.nc; unfold maxLen at this; omega
    rw [← hl] at HU ⊢
    clear hv hu hl
    have hE := neM
    have HE := Lib.hid (eqInM)
    have hG := guardM
    go_enter Try.func21, Try.ntmps21
    go_wp2
    go_loopw [5] (fun i wr => ∃ k : Nat, k ≤ l.length ∧ i = .int .i64 k ∧ l.take k = r.take k ∧ Ext w wr) (fun i _ => l.length - (intOf i).toNat)
    case atStart => exact ⟨0, Nat.zero_le _, rfl, by simp, Ext.refl _⟩
    case round =>
      obtain ⟨k, hk, rfl, ht, hext⟩ := hrel
      have HT := Lib.hid ht
      have HX := Lib.hid hext
      clear ht hext
      by_cases hlt : k < l.length
      · have g1 : (k : Int) < (l.length : Int) := by omega
        have g0 : 0 ≤ (k : Int) := by omega
        have hlr : k < r.length := by have := HL.out; omega
        obtain ⟨b1, o1, rfl, c1, c2⟩ := HV.out.at_ hlt
        obtain ⟨b2, o2, rfl, c3, c4⟩ := HU.out.at_ hlr
        have c1 := HX.out.cell c1
        have c2 := HX.out.cell c2
        have c3 := HX.out.cell c3
        have c4 := HX.out.cell c4
        obtain ⟨hst, hsn⟩ := list_eq_at l r k hlt hlr HT.out
        have HST := Lib.hid hst
        have HSN := Lib.hid hsn
        clear hst hsn
        generalize l[k] = x at *
        generalize r[k] = y at *
        obtain ⟨x1, x2⟩ := x
        obtain ⟨y1, y2⟩ := y
        dsimp only at *
        by_cases hxy : (x1, x2) = (y1, y2)
        · have HN := Lib.hid (HST.out hxy)
          have hd := pairB_t hxy
          clear hxy HST HSN
          go_wp2
          refine wp_regionY [] [] Ext Ext (fun _ => True) (by kernel_rfl) (by rfl) (by rfl) (by kernel_rfl) (by kernel_rfl) (by kernel_rfl) (fun _ _ _ x y => x.trans y) Ext.refl (fun _ _ x => x) (Ext.refl _).drew (fun _ _ x _ => x) trivial ?_
          repeat (first | (refine wpY_move0 rfl rfl (by first | exact runs0 | exact runs1 rfl) Ext.refl rfl rfl rfl ?_; apply Exists.intro; refine ⟨?_, ?_⟩; · (go_simp; rfl)) | (refine wpY_move rfl rfl (by first | exact runs0 | exact runs1 rfl) Ext.refl rfl rfl rfl (fun _ _ _ h _ => h) ?_) | (refine wpY_val rfl rfl (by first | exact runs0 | exact runs1 rfl) Ext.refl rfl ?_; apply Exists.intro; refine ⟨?_, ?_⟩; · (intro a w' hR; intro h1; (first | (have e1 : _ = _ := h1) | skip); intro h2; (first | (have e2 : _ = _ := h2) | skip); go_simp; rfl)) | (refine wpY_val rfl rfl (by first | exact runs0 | exact runs1 rfl) Ext.refl rfl ?_; apply Exists.intro; refine ⟨?_, ?_⟩; · (intro a w' hR; intro h1; (first | (have e1 : _ = _ := h1) | skip); go_simp; rfl)) | (refine wpY_val rfl rfl (by first | exact runs0 | exact runs1 rfl) Ext.refl rfl ?_; apply Exists.intro; refine ⟨?_, ?_⟩; · (intro a w' hR; go_simp; rfl)) | (refine wpY_val rfl rfl (by first | exact runs0 | exact runs1 rfl) Ext.refl rfl ?_; apply Exists.intro; refine ⟨?_, ?_⟩; · (intro a w' hR; intro h1; (first | (have e1 : _ = _ := h1) | skip); intro h2; (first | (have e2 : _ = _ := h2) | skip); intro h3; (first | (have e3 : _ = _ := h3) | skip); go_simp; rfl)) | (refine wpY_skip rfl rfl (by first | exact .inl rfl | exact .inr rfl) ?_))
          refine wpY_val rfl rfl (by first | exact runs0 | exact runs1 rfl) Ext.refl rfl ?_; apply Exists.intro; refine ⟨?_, ?_⟩
          · intro a w' hR h1
            have e1 : _ = _ := h1
            have hl1 := hR.cell c1
            have hl2 := hR.cell c2
            go_simp
            rfl
          repeat (first | (refine wpY_move0 rfl rfl (by first | exact runs0 | exact runs1 rfl) Ext.refl rfl rfl rfl ?_; apply Exists.intro; refine ⟨?_, ?_⟩; · (go_simp; rfl)) | (refine wpY_move rfl rfl (by first | exact runs0 | exact runs1 rfl) Ext.refl rfl rfl rfl (fun _ _ _ h _ => h) ?_) | (refine wpY_val rfl rfl (by first | exact runs0 | exact runs1 rfl) Ext.refl rfl ?_; apply Exists.intro; refine ⟨?_, ?_⟩; · (intro a w' hR; intro h1; (first | (have e1 : _ = _ := h1) | skip); intro h2; (first | (have e2 : _ = _ := h2) | skip); go_simp; rfl)) | (refine wpY_val rfl rfl (by first | exact runs0 | exact runs1 rfl) Ext.refl rfl ?_; apply Exists.intro; refine ⟨?_, ?_⟩; · (intro a w' hR; intro h1; (first | (have e1 : _ = _ := h1) | skip); go_simp; rfl)) | (refine wpY_val rfl rfl (by first | exact runs0 | exact runs1 rfl) Ext.refl rfl ?_; apply Exists.intro; refine ⟨?_, ?_⟩; · (intro a w' hR; go_simp; rfl)) | (refine wpY_val rfl rfl (by first | exact runs0 | exact runs1 rfl) Ext.refl rfl ?_; apply Exists.intro; refine ⟨?_, ?_⟩; · (intro a w' hR; intro h1; (first | (have e1 : _ = _ := h1) | skip); intro h2; (first | (have e2 : _ = _ := h2) | skip); intro h3; (first | (have e3 : _ = _ := h3) | skip); go_simp; rfl)) | (refine wpY_skip rfl rfl (by first | exact .inl rfl | exact .inr rfl) ?_))
          refine wpY_val rfl rfl (by first | exact runs0 | exact runs1 rfl) Ext.refl rfl ?_; apply Exists.intro; refine ⟨?_, ?_⟩
          · intro a w' hR h1
            have e1 : _ = _ := h1
            have hl1 := hR.cell c3
            have hl2 := hR.cell c4
            go_simp
            rfl
          refine wpY_val rfl rfl (by first | exact runs0 | exact runs1 rfl) Ext.refl rfl ?_; apply Exists.intro; refine ⟨?_, ?_⟩
          · intro a w' hR h1 h2
            have e1 : _ = _ := h1
            have e2 : _ = _ := h2
            go_simp
            rfl
          refine wpY_done ?_
          intro w5 hx5 hS5
          iterate 9 (rintro _ rfl)
          dsimp only [FinV]
          go_simp
          have HX5 := Lib.hid hx5
          clear hx5
          go_wp2
          exact ⟨⟨k + 1, by omega, by go_num, HN.out, HX.out.trans HX5.out⟩, by simp [intOf]; omega⟩
        · have HN := Lib.hid (HSN.out hxy)
          have hd := pairB_f hxy
          clear hxy HST HSN
          go_wp2
          refine wp_regionY [] [] Ext Ext (fun _ => True) (by kernel_rfl) (by rfl) (by rfl) (by kernel_rfl) (by kernel_rfl) (by kernel_rfl) (fun _ _ _ x y => x.trans y) Ext.refl (fun _ _ x => x) (Ext.refl _).drew (fun _ _ x _ => x) trivial ?_
          repeat (first | (refine wpY_move0 rfl rfl (by first | exact runs0 | exact runs1 rfl) Ext.refl rfl rfl rfl ?_; apply Exists.intro; refine ⟨?_, ?_⟩; · (go_simp; rfl)) | (refine wpY_move rfl rfl (by first | exact runs0 | exact runs1 rfl) Ext.refl rfl rfl rfl (fun _ _ _ h _ => h) ?_) | (refine wpY_val rfl rfl (by first | exact runs0 | exact runs1 rfl) Ext.refl rfl ?_; apply Exists.intro; refine ⟨?_, ?_⟩; · (intro a w' hR; intro h1; (first | (have e1 : _ = _ := h1) | skip); intro h2; (first | (have e2 : _ = _ := h2) | skip); go_simp; rfl)) | (refine wpY_val rfl rfl (by first | exact runs0 | exact runs1 rfl) Ext.refl rfl ?_; apply Exists.intro; refine ⟨?_, ?_⟩; · (intro a w' hR; intro h1; (first | (have e1 : _ = _ := h1) | skip); go_simp; rfl)) | (refine wpY_val rfl rfl (by first | exact runs0 | exact runs1 rfl) Ext.refl rfl ?_; apply Exists.intro; refine ⟨?_, ?_⟩; · (intro a w' hR; go_simp; rfl)) | (refine wpY_val rfl rfl (by first | exact runs0 | exact runs1 rfl) Ext.refl rfl ?_; apply Exists.intro; refine ⟨?_, ?_⟩; · (intro a w' hR; intro h1; (first | (have e1 : _ = _ := h1) | skip); intro h2; (first | (have e2 : _ = _ := h2) | skip); intro h3; (first | (have e3 : _ = _ := h3) | skip); go_simp; rfl)) | (refine wpY_skip rfl rfl (by first | exact .inl rfl | exact .inr rfl) ?_))
          refine wpY_val rfl rfl (by first | exact runs0 | exact runs1 rfl) Ext.refl rfl ?_; apply Exists.intro; refine ⟨?_, ?_⟩
          · intro a w' hR h1
            have e1 : _ = _ := h1
            have hl1 := hR.cell c1
            have hl2 := hR.cell c2
            go_simp
            rfl
          repeat (first | (refine wpY_move0 rfl rfl (by first | exact runs0 | exact runs1 rfl) Ext.refl rfl rfl rfl ?_; apply Exists.intro; refine ⟨?_, ?_⟩; · (go_simp; rfl)) | (refine wpY_move rfl rfl (by first | exact runs0 | exact runs1 rfl) Ext.refl rfl rfl rfl (fun _ _ _ h _ => h) ?_) | (refine wpY_val rfl rfl (by first | exact runs0 | exact runs1 rfl) Ext.refl rfl ?_; apply Exists.intro; refine ⟨?_, ?_⟩; · (intro a w' hR; intro h1; (first | (have e1 : _ = _ := h1) | skip); intro h2; (first | (have e2 : _ = _ := h2) | skip); go_simp; rfl)) | (refine wpY_val rfl rfl (by first | exact runs0 | exact runs1 rfl) Ext.refl rfl ?_; apply Exists.intro; refine ⟨?_, ?_⟩; · (intro a w' hR; intro h1; (first | (have e1 : _ = _ := h1) | skip); go_simp; rfl)) | (refine wpY_val rfl rfl (by first | exact runs0 | exact runs1 rfl) Ext.refl rfl ?_; apply Exists.intro; refine ⟨?_, ?_⟩; · (intro a w' hR; go_simp; rfl)) | (refine wpY_val rfl rfl (by first | exact runs0 | exact runs1 rfl) Ext.refl rfl ?_; apply Exists.intro; refine ⟨?_, ?_⟩; · (intro a w' hR; intro h1; (first | (have e1 : _ = _ := h1) | skip); intro h2; (first | (have e2 : _ = _ := h2) | skip); intro h3; (first | (have e3 : _ = _ := h3) | skip); go_simp; rfl)) | (refine wpY_skip rfl rfl (by first | exact .inl rfl | exact .inr rfl) ?_))
          refine wpY_val rfl rfl (by first | exact runs0 | exact runs1 rfl) Ext.refl rfl ?_; apply Exists.intro; refine ⟨?_, ?_⟩
          · intro a w' hR h1
            have e1 : _ = _ := h1
            have hl1 := hR.cell c3
            have hl2 := hR.cell c4
            go_simp
            rfl
          refine wpY_val rfl rfl (by first | exact runs0 | exact runs1 rfl) Ext.refl rfl ?_; apply Exists.intro; refine ⟨?_, ?_⟩
          · intro a w' hR h1 h2
            have e1 : _ = _ := h1
            have e2 : _ = _ := h2
            go_simp
            rfl
          refine wpY_done ?_
          intro w5 hx5 hS5
          iterate 9 (rintro _ rfl)
          dsimp only [FinV]
          go_simp
          have HX5 := Lib.hid hx5
          clear hx5
          go_wp2
          go_ret
          rw [HN.out]
          exact ⟨rfl, HX.out.trans HX5.out⟩
      · obtain rfl : k = l.length := by omega
        have hq : decide (l = r) = true := by
          have h1 := HT.out
          have h2 := HL.out
          rw [List.take_length, h2, List.take_length] at h1
          simpa using h1
        have HQ := Lib.hid hq
        clear hq
        go_wp2
        go_ret
        rw [HQ.out]
        exact ⟨rfl, HX.out⟩
  · refine (same_len A B _ _ c d w hl).mono ?_
    rintro e w' ⟨rfl, rfl⟩
    have : decide (l = r) = false := by simp; intro h; exact hl (by rw [h])
    rw [this]
    exact ⟨rfl, Ext.refl _⟩
end Go.Proofs.Ytbokblklldphgaa.Mo
