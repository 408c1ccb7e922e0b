/-
  Entries: records at moments, as cells and values; the document's Same.
-/
import Derived.Test.YtbokblklldphgaaMomRef
import Derived.Test.YtbokblklldphgaaRowE
import Derived.Test.YtbokblklldphgaaRec
namespace Go.Ox.Ent
/-- a record at a moment -/
abbrev E := (Int × Int) × (Int × Int)
def eqB (x y : E) : Bool := decide (x = y)
theorem eqB_t {x y : E} (h : x = y) : eqB x y = true := by unfold eqB; simpa using h
theorem eqB_f {x y : E} (h : x ≠ y) : eqB x y = false := by unfold eqB; simpa using h
theorem eq_at {α : Type} (l r : List α) (k : Nat) (h1 : k < l.length) (h2 : k < r.length) (ht : l.take k = r.take k) : (l[k] = r[k] → l.take (k + 1) = r.take (k + 1)) ∧ (l[k] ≠ r[k] → l ≠ r) := by
  refine ⟨fun h => ?_, fun h e => ?_⟩
  · rw [List.take_succ_eq_append_getElem h1, List.take_succ_eq_append_getElem h2, ht, h]
  · subst e; exact h rfl
end Go.Ox.Ent
namespace Go.Ox
instance encEnt : Enc Ent.E where
  k := 4
  enc x := [.int .i64 x.1.1, .int .i64 x.1.2, .int .i64 x.2.1, .int .i64 x.2.2]
  len _ := rfl
  pos := by omega
  one x u hu := by simp at hu; rcases hu with rfl | rfl | rfl | rfl <;> rfl
end Go.Ox
namespace Go.Proofs.Ytbokblklldphgaa
open Go.RowKit Go.Ox
set_option linter.unusedVariables false
set_option linter.unusedSimpArgs false

abbrev entV (x : Ent.E) : Value := .agg #[.int .i64 x.1.1, .int .i64 x.1.2, .int .i64 x.2.1, .int .i64 x.2.2]
theorem elemE : Elem Try.prog 38 33 (.agg #[.int .i64 0, .int .i64 0, .int .i64 0, .int .i64 0]) 4 32 := Elem.mk' Try.underlying38 (by kernel_rfl) rfl (by omega)
theorem guardE : Try.prog.eqGuardType Try.prog.depth 33 = false := by kernel_rfl
theorem eqInEM (a b c d : Int) (w : World) : (Op.equalIn 9999 29 (.agg #[.int .i64 a, .int .i64 b]) (.agg #[.int .i64 c, .int .i64 d])).run Try.prog w = .ok ((a == c) && (b == d)) w := by
  have u3 := Try.underlying3
  have a3 := Try.isAgg3
  have z3 := Try.sizeOf3
  have hS : Try.prog.underlying 29 = some (.struct (Try.prog.fieldsOf 29)) := by kernel_rfl
  have hp : Try.prog.stoodInHeld 29 = false := by kernel_rfl
  rw [show (9999 : Nat) = 9998 + 1 from rfl, run_equalIn_agg w 9998 29 _ _ hS hp]
  simp only [Program.fieldsOf, Try.underlying29]
  go_simp
  by_cases h1 : a = c <;> by_cases h2 : b = d <;> simp [h1, h2]
theorem eqInER (a b c d : Int) (w : World) : (Op.equalIn 9999 31 (.agg #[.int .i64 a, .int .i64 b]) (.agg #[.int .i64 c, .int .i64 d])).run Try.prog w = .ok ((a == c) && (b == d)) w := by
  have u3 := Try.underlying3
  have a3 := Try.isAgg3
  have z3 := Try.sizeOf3
  have hS : Try.prog.underlying 31 = some (.struct (Try.prog.fieldsOf 31)) := by kernel_rfl
  have hp : Try.prog.stoodInHeld 31 = false := by kernel_rfl
  rw [show (9999 : Nat) = 9998 + 1 from rfl, run_equalIn_agg w 9998 31 _ _ hS hp]
  simp only [Program.fieldsOf, Try.underlying31]
  go_simp
  by_cases h1 : a = c <;> by_cases h2 : b = d <;> simp [h1, h2]
theorem eqInE (x y : Ent.E) (w : World) : (Op.equalIn 10000 33 (entV x) (entV y)).run Try.prog w = .ok (Ent.eqB x y) w := by
  have hS : Try.prog.underlying 33 = some (.struct (Try.prog.fieldsOf 33)) := by kernel_rfl
  have hp : Try.prog.stoodInHeld 33 = false := by kernel_rfl
  have h1 := eqInEM
  have h2 := eqInER
  have a1 := Try.isAgg29
  have a2 := Try.isAgg31
  have z1 := Try.sizeOf29
  have z2 := Try.sizeOf31
  rw [show (10000 : Nat) = 9999 + 1 from rfl, run_equalIn_agg w 9999 33 _ _ hS hp]
  simp only [Program.fieldsOf, Try.underlying33]
  obtain ⟨⟨x1, x2⟩, x3, x4⟩ := x
  obtain ⟨⟨y1, y2⟩, y3, y4⟩ := y
  go_simp
  unfold Ent.eqB
  by_cases q1 : x1 = y1 <;> by_cases q2 : x2 = y2 <;> by_cases q3 : x3 = y3 <;> by_cases q4 : x4 = y4 <;> simp [q1, q2, q3, q4]
theorem neE (x y : Ent.E) (w : World) : (binOp .neq 33 (entV x) (entV y)).run Try.prog w = .ok (.bool (!Ent.eqB x y)) w := by
  rw [run_neq_struct, eqInE]; rfl
theorem eqE (x y : Ent.E) (w : World) : (binOp .eql 33 (entV x) (entV y)).run Try.prog w = .ok (.bool (Ent.eqB x y)) w := by
  rw [run_eql_struct, eqInE]; rfl
theorem re4 {w : World} {A : Option Addr} {n c : Nat} {l : List Ent.E} (h : RE w (.slice A n c) l) {k : Nat} (hk : k < l.length) :
    ∃ b o, A = some ⟨b, o, none⟩ ∧ w.cell? ⟨b, o + k * 4, none⟩ = some (.int .i64 l[k].1.1) ∧ w.cell? ⟨b, o + k * 4 + 1, none⟩ = some (.int .i64 l[k].1.2) ∧ w.cell? ⟨b, o + k * 4 + 2, none⟩ = some (.int .i64 l[k].2.1) ∧ w.cell? ⟨b, o + k * 4 + 3, none⟩ = some (.int .i64 l[k].2.2) := by
  obtain ⟨b, o, e, h2⟩ := h.at_ hk
  exact ⟨b, o, e, h2 0 _ rfl, h2 1 _ rfl, h2 2 _ rfl, h2 3 _ rfl⟩

set_option maxRecDepth 100000 in
set_option maxHeartbeats 400000 in
theorem sameE_len (A B : Option Addr) (n m c d : Nat) (w : World) (hne : n ≠ m) : Calls Try.prog 19 #[.slice A n c, .slice B m d] w fun e w' => e = .returned (.bool false) ∧ w = w' := by
  have h : ((n : Int) != (m : Int)) = true := by simp; omega
  go_enter Try.func19, Try.ntmps19
  go_wp2
  go_ret
  exact ⟨rfl, rfl⟩
set_option maxRecDepth 100000 in
set_option maxHeartbeats 1000000 in
theorem sameE_any (v u : Value) (l r : List Ent.E) (w : World) (hv : RE w v l) (hu : RE w u r) : Calls Try.prog 19 #[v, u] w fun e w' => e = .returned (.bool (decide (l = r))) ∧ Ext w w' := by
  obtain ⟨A, c, rfl⟩ := hv.form
  obtain ⟨B, d, rfl⟩ := hu.form
  by_cases hl : l.length = r.length
  · have HV := Lib.hid hv
    have HU := Lib.hid hu
    have HL := Lib.hid hl
    have hlb : l.length ≤ 9223372036854775807 := by have := hv.nc; unfold maxLen at this; omega
    rw [← hl] at HU ⊢
    clear hv hu hl
    have hE := neE
    have hG := guardE
    go_enter Try.func19, Try.ntmps19
    go_wp2
    go_loopw [5] (fun i wr => ∃ k : Nat, k ≤ l.length ∧ i = .int .i64 k ∧ l.take k = r.take k ∧ Ext w wr) (fun i _ => l.length - (intOf i).toNat)
    case atStart => exact ⟨0, Nat.zero_le _, rfl, by simp, Ext.refl _⟩
    case round =>
      obtain ⟨k, hk, rfl, ht, hext⟩ := hrel
      have HT := Lib.hid ht
      have HX := Lib.hid hext
      clear ht hext
      by_cases hlt : k < l.length
      · have g1 : (k : Int) < (l.length : Int) := by omega
        have g0 : 0 ≤ (k : Int) := by omega
        have hlr : k < r.length := by have := HL.out; omega
        obtain ⟨b1, o1, rfl, c1, c2, c3, c4⟩ := re4 HV.out hlt
        obtain ⟨b2, o2, rfl, d1, d2, d3, d4⟩ := re4 HU.out hlr
        have c1 := HX.out.cell c1
        have c2 := HX.out.cell c2
        have c3 := HX.out.cell c3
        have c4 := HX.out.cell c4
        have d1 := HX.out.cell d1
        have d2 := HX.out.cell d2
        have d3 := HX.out.cell d3
        have d4 := HX.out.cell d4
        obtain ⟨hst, hsn⟩ := Ent.eq_at l r k hlt hlr HT.out
        have HST := Lib.hid hst
        have HSN := Lib.hid hsn
        clear hst hsn
        generalize l[k] = x at *
        generalize r[k] = y at *
        obtain ⟨⟨x1, x2⟩, x3, x4⟩ := x
        obtain ⟨⟨y1, y2⟩, y3, y4⟩ := y
        dsimp only at *
        have hE := neE ((x1, x2), x3, x4) ((y1, y2), y3, y4)
        dsimp only [entV] at hE
        by_cases hxy : ((x1, x2), x3, x4) = ((y1, y2), y3, y4)
        · have HN := Lib.hid (HST.out hxy)
          rw [Ent.eqB_t hxy] at hE
          clear hxy HST HSN
          go_wp2
          refine wp_regionY [] [] Ext Ext (fun _ => True) (by kernel_rfl) (by rfl) (by rfl) (by kernel_rfl) (by kernel_rfl) (by kernel_rfl) (fun _ _ _ x y => x.trans y) Ext.refl (fun _ _ x => x) (Ext.refl _).drew (fun _ _ x _ => x) trivial ?_
          repeat (first | (refine wpY_move0 rfl rfl (by first | exact runs0 | exact runs1 rfl) Ext.refl rfl rfl rfl ?_; apply Exists.intro; refine ⟨?_, ?_⟩; · (go_simp; rfl)) | (refine wpY_move rfl rfl (by first | exact runs0 | exact runs1 rfl) Ext.refl rfl rfl rfl (fun _ _ _ h _ => h) ?_) | (refine wpY_val rfl rfl (by first | exact runs0 | exact runs1 rfl) Ext.refl rfl ?_; apply Exists.intro; refine ⟨?_, ?_⟩; · (intro a w' hR; intro h1; (first | (have e1 : _ = _ := h1) | skip); intro h2; (first | (have e2 : _ = _ := h2) | skip); go_simp; rfl)) | (refine wpY_val rfl rfl (by first | exact runs0 | exact runs1 rfl) Ext.refl rfl ?_; apply Exists.intro; refine ⟨?_, ?_⟩; · (intro a w' hR; intro h1; (first | (have e1 : _ = _ := h1) | skip); go_simp; rfl)) | (refine wpY_val rfl rfl (by first | exact runs0 | exact runs1 rfl) Ext.refl rfl ?_; apply Exists.intro; refine ⟨?_, ?_⟩; · (intro a w' hR; go_simp; rfl)) | (refine wpY_val rfl rfl (by first | exact runs0 | exact runs1 rfl) Ext.refl rfl ?_; apply Exists.intro; refine ⟨?_, ?_⟩; · (intro a w' hR; intro h1; (first | (have e1 : _ = _ := h1) | skip); intro h2; (first | (have e2 : _ = _ := h2) | skip); intro h3; (first | (have e3 : _ = _ := h3) | skip); go_simp; rfl)) | (refine wpY_skip rfl rfl (by first | exact .inl rfl | exact .inr rfl) ?_))
          refine wpY_val rfl rfl (by first | exact runs0 | exact runs1 rfl) Ext.refl rfl ?_; apply Exists.intro; refine ⟨?_, ?_⟩
          · intro a w' hR h1
            have e1 : _ = _ := h1
            have hl1 := hR.cell c1
            have hl2 := hR.cell c2
            have hl3 := hR.cell c3
            have hl4 := hR.cell c4
            go_simp
            rfl
          repeat (first | (refine wpY_move0 rfl rfl (by first | exact runs0 | exact runs1 rfl) Ext.refl rfl rfl rfl ?_; apply Exists.intro; refine ⟨?_, ?_⟩; · (go_simp; rfl)) | (refine wpY_move rfl rfl (by first | exact runs0 | exact runs1 rfl) Ext.refl rfl rfl rfl (fun _ _ _ h _ => h) ?_) | (refine wpY_val rfl rfl (by first | exact runs0 | exact runs1 rfl) Ext.refl rfl ?_; apply Exists.intro; refine ⟨?_, ?_⟩; · (intro a w' hR; intro h1; (first | (have e1 : _ = _ := h1) | skip); intro h2; (first | (have e2 : _ = _ := h2) | skip); go_simp; rfl)) | (refine wpY_val rfl rfl (by first | exact runs0 | exact runs1 rfl) Ext.refl rfl ?_; apply Exists.intro; refine ⟨?_, ?_⟩; · (intro a w' hR; intro h1; (first | (have e1 : _ = _ := h1) | skip); go_simp; rfl)) | (refine wpY_val rfl rfl (by first | exact runs0 | exact runs1 rfl) Ext.refl rfl ?_; apply Exists.intro; refine ⟨?_, ?_⟩; · (intro a w' hR; go_simp; rfl)) | (refine wpY_val rfl rfl (by first | exact runs0 | exact runs1 rfl) Ext.refl rfl ?_; apply Exists.intro; refine ⟨?_, ?_⟩; · (intro a w' hR; intro h1; (first | (have e1 : _ = _ := h1) | skip); intro h2; (first | (have e2 : _ = _ := h2) | skip); intro h3; (first | (have e3 : _ = _ := h3) | skip); go_simp; rfl)) | (refine wpY_skip rfl rfl (by first | exact .inl rfl | exact .inr rfl) ?_))
          refine wpY_val rfl rfl (by first | exact runs0 | exact runs1 rfl) Ext.refl rfl ?_; apply Exists.intro; refine ⟨?_, ?_⟩
          · intro a w' hR h1
            have e1 : _ = _ := h1
            have hl1 := hR.cell d1
            have hl2 := hR.cell d2
            have hl3 := hR.cell d3
            have hl4 := hR.cell d4
            go_simp
            rfl
          refine wpY_val rfl rfl (by first | exact runs0 | exact runs1 rfl) Ext.refl rfl ?_; apply Exists.intro; refine ⟨?_, ?_⟩
          · intro a w' hR h1 h2
            have e1 : _ = _ := h1
            have e2 : _ = _ := h2
            go_simp
            rfl
          refine wpY_done ?_
          intro w5 hx5 hS5
          iterate 9 (rintro _ rfl)
          dsimp only [FinV]
          go_simp
          have HX5 := Lib.hid hx5
          clear hx5
          go_wp2
          exact ⟨⟨k + 1, by omega, by go_num, HN.out, HX.out.trans HX5.out⟩, by simp [intOf]; omega⟩
        · have HN := Lib.hid (HSN.out hxy)
          rw [Ent.eqB_f hxy] at hE
          clear hxy HST HSN
          go_wp2
          refine wp_regionY [] [] Ext Ext (fun _ => True) (by kernel_rfl) (by rfl) (by rfl) (by kernel_rfl) (by kernel_rfl) (by kernel_rfl) (fun _ _ _ x y => x.trans y) Ext.refl (fun _ _ x => x) (Ext.refl _).drew (fun _ _ x _ => x) trivial ?_
          repeat (first | (refine wpY_move0 rfl rfl (by first | exact runs0 | exact runs1 rfl) Ext.refl rfl rfl rfl ?_; apply Exists.intro; refine ⟨?_, ?_⟩; · (go_simp; rfl)) | (refine wpY_move rfl rfl (by first | exact runs0 | exact runs1 rfl) Ext.refl rfl rfl rfl (fun _ _ _ h _ => h) ?_) | (refine wpY_val rfl rfl (by first | exact runs0 | exact runs1 rfl) Ext.refl rfl ?_; apply Exists.intro; refine ⟨?_, ?_⟩; · (intro a w' hR; intro h1; (first | (have e1 : _ = _ := h1) | skip); intro h2; (first | (have e2 : _ = _ := h2) | skip); go_simp; rfl)) | (refine wpY_val rfl rfl (by first | exact runs0 | exact runs1 rfl) Ext.refl rfl ?_; apply Exists.intro; refine ⟨?_, ?_⟩; · (intro a w' hR; intro h1; (first | (have e1 : _ = _ := h1) | skip); go_simp; rfl)) | (refine wpY_val rfl rfl (by first | exact runs0 | exact runs1 rfl) Ext.refl rfl ?_; apply Exists.intro; refine ⟨?_, ?_⟩; · (intro a w' hR; go_simp; rfl)) | (refine wpY_val rfl rfl (by first | exact runs0 | exact runs1 rfl) Ext.refl rfl ?_; apply Exists.intro; refine ⟨?_, ?_⟩; · (intro a w' hR; intro h1; (first | (have e1 : _ = _ := h1) | skip); intro h2; (first | (have e2 : _ = _ := h2) | skip); intro h3; (first | (have e3 : _ = _ := h3) | skip); go_simp; rfl)) | (refine wpY_skip rfl rfl (by first | exact .inl rfl | exact .inr rfl) ?_))
          refine wpY_val rfl rfl (by first | exact runs0 | exact runs1 rfl) Ext.refl rfl ?_; apply Exists.intro; refine ⟨?_, ?_⟩
          · intro a w' hR h1
            have e1 : _ = _ := h1
            have hl1 := hR.cell c1
            have hl2 := hR.cell c2
            have hl3 := hR.cell c3
            have hl4 := hR.cell c4
            go_simp
            rfl
          repeat (first | (refine wpY_move0 rfl rfl (by first | exact runs0 | exact runs1 rfl) Ext.refl rfl rfl rfl ?_; apply Exists.intro; refine ⟨?_, ?_⟩; · (go_simp; rfl)) | (refine wpY_move rfl rfl (by first | exact runs0 | exact runs1 rfl) Ext.refl rfl rfl rfl (fun _ _ _ h _ => h) ?_) | (refine wpY_val rfl rfl (by first | exact runs0 | exact runs1 rfl) Ext.refl rfl ?_; apply Exists.intro; refine ⟨?_, ?_⟩; · (intro a w' hR; intro h1; (first | (have e1 : _ = _ := h1) | skip); intro h2; (first | (have e2 : _ = _ := h2) | skip); go_simp; rfl)) | (refine wpY_val rfl rfl (by first | exact runs0 | exact runs1 rfl) Ext.refl rfl ?_; apply Exists.intro; refine ⟨?_, ?_⟩; · (intro a w' hR; intro h1; (first | (have e1 : _ = _ := h1) | skip); go_simp; rfl)) | (refine wpY_val rfl rfl (by first | exact runs0 | exact runs1 rfl) Ext.refl rfl ?_; apply Exists.intro; refine ⟨?_, ?_⟩; · (intro a w' hR; go_simp; rfl)) | (refine wpY_val rfl rfl (by first | exact runs0 | exact runs1 rfl) Ext.refl rfl ?_; apply Exists.intro; refine ⟨?_, ?_⟩; · (intro a w' hR; intro h1; (first | (have e1 : _ = _ := h1) | skip); intro h2; (first | (have e2 : _ = _ := h2) | skip); intro h3; (first | (have e3 : _ = _ := h3) | skip); go_simp; rfl)) | (refine wpY_skip rfl rfl (by first | exact .inl rfl | exact .inr rfl) ?_))
          refine wpY_val rfl rfl (by first | exact runs0 | exact runs1 rfl) Ext.refl rfl ?_; apply Exists.intro; refine ⟨?_, ?_⟩
          · intro a w' hR h1
            have e1 : _ = _ := h1
            have hl1 := hR.cell d1
            have hl2 := hR.cell d2
            have hl3 := hR.cell d3
            have hl4 := hR.cell d4
            go_simp
            rfl
          refine wpY_val rfl rfl (by first | exact runs0 | exact runs1 rfl) Ext.refl rfl ?_; apply Exists.intro; refine ⟨?_, ?_⟩
          · intro a w' hR h1 h2
            have e1 : _ = _ := h1
            have e2 : _ = _ := h2
            go_simp
            rfl
          refine wpY_done ?_
          intro w5 hx5 hS5
          iterate 9 (rintro _ rfl)
          dsimp only [FinV]
          go_simp
          have HX5 := Lib.hid hx5
          clear hx5
          go_wp2
          go_ret
          rw [decide_eq_false HN.out]
          exact ⟨rfl, HX.out.trans HX5.out⟩
      · obtain rfl : k = l.length := by omega
        have g1 : ¬ (l.length : Int) < (l.length : Int) := by omega
        have HN := Lib.hid (show l = r by
          have h1 := HT.out
          rw [List.take_length, HL.out, List.take_length] at h1
          exact h1)
        go_wp2
        go_ret
        rw [decide_eq_true HN.out]
        exact ⟨rfl, HX.out⟩
  · refine (sameE_len A B _ _ c d w hl).mono ?_
    rintro e w' ⟨rfl, rfl⟩
    exact ⟨by rw [decide_eq_false fun h => hl (by rw [h])], Ext.refl _⟩
end Go.Proofs.Ytbokblklldphgaa
