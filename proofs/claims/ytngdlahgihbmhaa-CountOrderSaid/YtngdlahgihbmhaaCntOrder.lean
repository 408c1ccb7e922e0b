/-
  The statements of layer 21: CountOrder.
-/
import Derived.Test.YtngdlahgihbmhaaCntOwn
import Derived.Test.YtngdlahgihbmhaaCntMath2
namespace Go.Proofs.Ytngdlahgihbmhaa
open Go.RowKit Go.Ox Go.Shelf
set_option linter.unusedVariables false
set_option linter.unusedSimpArgs false
attribute [local irreducible] OP RP

/-- only the blocks b and d changed, and no cell did -/
structure ExtM2 (b d : Nat) (w w' : World) : Prop where
  os : w'.os = w.os
  tape : w'.tape = w.tape
  output : w'.output = w.output
  size : w.heap.size ≤ w'.heap.size
  block : ∀ k, k < w.heap.size → k ≠ b → k ≠ d → w'.heap[k]? = w.heap[k]?
  cells : ∀ a v, w.cell? a = some v → w'.cell? a = some v
section
variable {b d : Nat} {w w' a c e : World}
theorem ExtM2.refl (b d : Nat) (w : World) : ExtM2 b d w w := ⟨rfl, rfl, rfl, Nat.le_refl _, fun _ _ _ _ => rfl, fun _ _ h => h⟩
theorem ExtM2.trans (h : ExtM2 b d a c) (k : ExtM2 b d c e) : ExtM2 b d a e :=
  ⟨k.os.trans h.os, k.tape.trans h.tape, k.output.trans h.output, Nat.le_trans h.size k.size, fun x hx h1 h2 => (k.block x (Nat.lt_of_lt_of_le hx h.size) h1 h2).trans (h.block x hx h1 h2), fun x v hv => k.cells x v (h.cells x v hv)⟩
theorem ExtM2.left (h : ExtM b a c) : ExtM2 b d a c := ⟨h.os, h.tape, h.output, h.size, fun k hk h1 _ => h.block k hk h1, h.cells⟩
theorem ExtM2.right (h : ExtM d a c) : ExtM2 b d a c := ⟨h.os, h.tape, h.output, h.size, fun k hk _ h2 => h.block k hk h2, h.cells⟩
theorem ext_andM2 {w0 : World} (h : Ext w0 a) (k : ExtM2 b d a c) (hb : w0.heap.size ≤ b) (hd : w0.heap.size ≤ d) : Ext w0 c :=
  Below.trans h ⟨k.os, k.tape, k.output, k.size, fun x hx => k.block x (Nat.lt_of_lt_of_le hx h.size) (by omega) (by omega)⟩
end
/-- the last k, from behind -/
def lastS (l : List Cnt.S) (k : Nat) : List Cnt.S := (l.reverse).take k
theorem lastS_s (l : List Cnt.S) (k : Nat) (h : k < l.length) : lastS l (k + 1) = lastS l k ++ [l[l.length - 1 - k]] := by
  unfold lastS
  rw [List.take_succ_eq_append_getElem (by simpa using h), List.getElem_reverse]
theorem lastS_mem {l : List Cnt.S} {k : Nat} {x : Cnt.S} (h : x ∈ lastS l k) : x ∈ l := List.mem_reverse.1 (List.mem_of_mem_take h)
theorem lastS_len (l : List Cnt.S) (k : Nat) : (lastS l k).length ≤ l.length := by
  unfold lastS
  rw [List.length_take, List.length_reverse]; omega
theorem lastS_all (l : List Cnt.S) : lastS l l.length = l.reverse := by
  unfold lastS
  rw [List.take_of_length_le (by simp)]
def small (x : Cnt.S) : Bool := decide (0 ≤ x.2) && decide (x.2 ≤ 1048576)
theorem small_iff {x : Cnt.S} : small x = true ↔ 0 ≤ x.2 ∧ x.2 ≤ 1048576 := by unfold small; simp

set_option maxRecDepth 100000 in
set_option maxHeartbeats 4000000 in
theorem order_long (v : Value) (l : List Cnt.S) (w : World) (hv : RE w v l) (hl : 60 < l.length) :
    Calls Try.prog 6 #[v] w fun e w' => e = .returned (.bool true) ∧ Ext w w' := by
  obtain ⟨A, c, rfl⟩ := hv.form
  have g : (60 : Int) < (l.length : Int) := by omega
  clear hv hl
  go_enter Try.func6, Try.ntmps6
  go_wp2_with fail
  refine (new_any _).mono ?_
  rintro e w1 ⟨ga, ba, rfl, _, _, _, hx1⟩
  have HX1 := Lib.hid hx1
  clear hx1
  go_wp2_with fail
  refine (new_any _).mono ?_
  rintro e w2 ⟨gb, bb, rfl, _, _, _, hx2⟩
  have HX2 := Lib.hid (HX1.out.trans hx2)
  clear hx2
  go_wp2_with fail
  refine (lives_any _).mono ?_
  rintro e w3 ⟨rfl, hx3⟩
  have HX3 := Lib.hid (HX2.out.trans hx3)
  clear hx3
  go_wp2_with fail
  refine (lives_any _).mono ?_
  rintro e w4 ⟨rfl, hx4⟩
  go_wp2
  go_ret
  exact ⟨rfl, HX3.out.trans hx4⟩

set_option maxRecDepth 100000 in
set_option maxHeartbeats 8000000 in
theorem order_short (v : Value) (l : List Cnt.S) (w : World) (hv : RE w v l) (hl : l.length ≤ 60) :
    Calls Try.prog 6 #[v] w fun e w' => e = .returned (.bool true) ∧ Ext w w' := by
  obtain ⟨A, c, rfl⟩ := hv.form
  have g : ¬ (60 : Int) < (l.length : Int) := by omega
  have HV := Lib.hid hv
  clear hv
  go_enter Try.func6, Try.ntmps6
  go_wp2_with fail
  refine (new_any _).mono ?_
  rintro e w1 ⟨ga, ba, rfl, hga, hba, hca, hx1⟩
  have HA1 := Lib.hid hca
  have HX1 := Lib.hid hx1
  have HZA := Lib.hid hba
  have hlt := hca.lt
  clear hx1 hca hga hba
  go_wp2_with fail
  refine (new_any _).mono ?_
  rintro e w2 ⟨gb, bb, rfl, hgb, hbb, hcb, hx2⟩
  have HA2 := Lib.hid (HA1.out.ext hx2)
  have HB2 := Lib.hid hcb
  have HX2 := Lib.hid (HX1.out.trans hx2)
  have HNE := Lib.hid (show ga ≠ bb ∧ ba ≠ bb ∧ gb ≠ ba ∧ bb ≠ ba by omega)
  have HZB := Lib.hid (show w.heap.size ≤ bb from Nat.le_trans HX1.out.size hbb)
  clear hx2 hcb hgb hbb hlt HA1 HX1
  go_wp2_with fail
  refine (lives_any _).mono ?_
  rintro e w3 ⟨rfl, hx3⟩
  have HA3 := Lib.hid (HA2.out.ext hx3)
  have HB3 := Lib.hid (HB2.out.ext hx3)
  have HX3 := Lib.hid (HX2.out.trans hx3)
  clear hx3 HA2 HB2 HX2
  go_wp2
  go_loopw [5] (fun iv wr => ∃ k : Nat, k ≤ l.length ∧ iv = .int .i64 k ∧ (∀ x ∈ l.take k, small x = true) ∧ w3 = wr) (fun iv _ => l.length - (intOf iv).toNat)
  case atStart => exact ⟨0, Nat.zero_le _, rfl, by simp, rfl⟩
  case round =>
    obtain ⟨k, hk, rfl, hsm, rfl⟩ := hrel
    have HSM := Lib.hid hsm
    clear hsm
    by_cases hlt : k < l.length
    · have g1 : (k : Int) < (l.length : Int) := by omega
      have g0 : 0 ≤ (k : Int) := by omega
      obtain ⟨bA, oA, rfl, c0, c1, c2, c3, c4⟩ := re5 (HV.out.ext HX3.out) hlt
      have HNX := Lib.hid (show small l[k] = true → ∀ x ∈ l.take (k + 1), small x = true from fun hs x hx => by
        rw [List.take_succ_eq_append_getElem hlt] at hx
        rcases List.mem_append.1 hx with hx | hx
        · exact HSM.out x hx
        · rw [List.mem_singleton.1 hx]; exact hs)
      generalize l[k] = y at *
      obtain ⟨⟨⟨y1, y2⟩, y3, y4⟩, y5⟩ := y
      dsimp only at *
      by_cases hneg : y5 < 0
      · go_wp2_with fail
        refine (lives_any _).mono ?_
        rintro e w4 ⟨rfl, hx4⟩
        go_wp2
        go_ret
        exact ⟨rfl, HX3.out.trans hx4⟩
      · by_cases hbig : 1048576 < y5
        · go_wp2_with fail
          refine (lives_any _).mono ?_
          rintro e w4 ⟨rfl, hx4⟩
          go_wp2
          go_ret
          exact ⟨rfl, HX3.out.trans hx4⟩
        · have HN := Lib.hid (HNX.out (small_iff.2 ⟨by simp only; omega, by simp only; omega⟩))
          go_wp2
          exact ⟨⟨k + 1, by omega, by go_num, HN.out, by first | trivial | rfl⟩, by simp [intOf]; omega⟩
    · obtain rfl : k = l.length := by omega
      have g1 : ¬ (l.length : Int) < (l.length : Int) := by omega
      have HALL := Lib.hid (show ∀ x ∈ l, 0 ≤ x.2 ∧ x.2 ≤ 1048576 from fun x hx => small_iff.1 (HSM.out x (by rw [List.take_length]; exact hx)))
      clear HSM
      go_wp2
      go_loopw [6] (fun iv wr => ∃ (k : Nat) (LA LB : List Cnt.S), k ≤ l.length ∧ iv = .int .i64 k ∧ CM wr ga ba LA ∧ CM wr gb bb LB ∧ Cnt.Sums LA (l.take k) ∧ Cnt.Sums LB (lastS l k) ∧ LA.length ≤ k ∧ LB.length ≤ k ∧ ExtM2 ba bb w3 wr) (fun iv _ => l.length - (intOf iv).toNat)
      case atStart => exact ⟨0, [], [], Nat.zero_le _, rfl, HA3.out, HB3.out, Cnt.Sums.start, Cnt.Sums.start, Nat.le_refl _, Nat.le_refl _, ExtM2.refl _ _ _⟩
      case round =>
        obtain ⟨k, LA, LB, hk, rfl, hca, hcb, hsa, hsb, hla, hlb, hext⟩ := hrel
        rename World => wA
        have HCA := Lib.hid hca
        have HCB := Lib.hid hcb
        have HE := Lib.hid hext
        have HW := Lib.hid (ext_andM2 HX3.out hext HZA.out HZB.out)
        by_cases hlt : k < l.length
        · have g3 : (k : Int) < (l.length : Int) := by omega
          have g0 : 0 ≤ (k : Int) := by omega
          obtain ⟨mm, hmm⟩ : ∃ m : Nat, m = l.length - 1 - k := ⟨_, rfl⟩
          have hml : mm < l.length := by omega
          have g4 : (mm : Int) < (l.length : Int) := by omega
          have g5 : (l.length : Int) - 1 - (k : Int) = (mm : Int) := by omega
          have g6 : 0 ≤ (mm : Int) := by omega
          have g7 : IntKind.i64.wrap ((l.length : Int) - 1) = (l.length : Int) - 1 := IntWalk.i64_in _ (by omega)
          have g8 : IntKind.i64.wrap ((l.length : Int) - 1 - (k : Int)) = (mm : Int) := by rw [IntWalk.i64_in _ (by omega)]; omega
          obtain ⟨bA, oA, hAA, c0, c1, c2, c3, c4⟩ := re5 (HV.out.ext HW.out) hlt
          subst hAA
          obtain ⟨bB, oB, hAB, d0, d1, d2, d3, d4⟩ := re5 (HV.out.ext HW.out) hml
          cases hAB
          have HSA := Lib.hid (show Cnt.Sums (Cnt.add LA l[k].1 l[k].2).1 (l.take (k + 1)) from by
            rw [List.take_succ_eq_append_getElem hlt]
            exact hsa.put (by rw [List.length_take]; omega) (fun x hx => HALL.out x (List.mem_of_mem_take hx)) (HALL.out _ (List.getElem_mem hlt)))
          have HSB := Lib.hid (show Cnt.Sums (Cnt.add LB l[mm].1 l[mm].2).1 (lastS l (k + 1)) from by
            rw [lastS_s l k hlt]
            subst hmm
            exact hsb.put (by have := lastS_len l k; omega) (fun x hx => HALL.out x (lastS_mem hx)) (HALL.out _ (List.getElem_mem hml)))
          have hla2 := Cnt.add_len LA l[k].1 l[k].2
          have hlb2 := Cnt.add_len LB l[mm].1 l[mm].2
          clear hmm
          generalize l[k] = x at *
          generalize l[mm] = y at *
          obtain ⟨⟨⟨x1, x2⟩, x3, x4⟩, x5⟩ := x
          obtain ⟨⟨⟨y1, y2⟩, y3, y4⟩, y5⟩ := y
          dsimp only at *
          have HAA := Lib.hid (fun w h => add_any w ga ba LA h ((x1, x2), x3, x4) x5)
          have HAB := Lib.hid (fun w h => add_any w gb bb LB h ((y1, y2), y3, y4) y5)
          generalize (Cnt.add LA ((x1, x2), x3, x4) x5).1 = MA at *
          generalize (Cnt.add LB ((y1, y2), y3, y4) y5).1 = MB at *
          generalize (Cnt.add LA ((x1, x2), x3, x4) x5).2 = qa at *
          generalize (Cnt.add LB ((y1, y2), y3, y4) y5).2 = qb at *
          clear hca hcb hsa hsb hext
          go_wp2
          refine wp_regionY [72] [] Ext (ExtM ba) (fun w => CM w ga ba LA) (by kernel_rfl) (by rfl) (by rfl) (by kernel_rfl) (by kernel_rfl) (by kernel_rfl) (fun _ _ _ x y => x.trans y) (ExtM.refl ba) (fun _ _ x => ExtM.of x) (Ext.refl _).drew (fun _ _ x y => x.ext y) (HCA.out) ?_
          repeat (first | (refine wpY_move0 rfl rfl (by first | exact runs0 | exact runs1 rfl) Ext.refl rfl rfl rfl ?_; apply Exists.intro; refine ⟨?_, ?_⟩; · (go_simp; rfl)) | (refine wpY_move rfl rfl (by first | exact runs0 | exact runs1 rfl) Ext.refl rfl rfl rfl (fun _ _ _ h _ => h) ?_) | (refine wpY_val rfl rfl (by first | exact runs0 | exact runs1 rfl) Ext.refl rfl ?_; apply Exists.intro; refine ⟨?_, ?_⟩; · (intro a w' hR; intro h1; (first | (have e1 : _ = _ := h1) | skip); intro h2; (first | (have e2 : _ = _ := h2) | skip); go_simp; rfl)) | (refine wpY_val rfl rfl (by first | exact runs0 | exact runs1 rfl) Ext.refl rfl ?_; apply Exists.intro; refine ⟨?_, ?_⟩; · (intro a w' hR; intro h1; (first | (have e1 : _ = _ := h1) | skip); go_simp; rfl)) | (refine wpY_val rfl rfl (by first | exact runs0 | exact runs1 rfl) Ext.refl rfl ?_; apply Exists.intro; refine ⟨?_, ?_⟩; · (intro a w' hR; go_simp; rfl)) | (refine wpY_val rfl rfl (by first | exact runs0 | exact runs1 rfl) Ext.refl rfl ?_; apply Exists.intro; refine ⟨?_, ?_⟩; · (intro a w' hR; intro h1; (first | (have e1 : _ = _ := h1) | skip); intro h2; (first | (have e2 : _ = _ := h2) | skip); intro h3; (first | (have e3 : _ = _ := h3) | skip); go_simp; rfl)) | (refine wpY_skip rfl rfl (by first | exact .inl rfl | exact .inr rfl) ?_))
          refine wpY_val rfl rfl (by first | exact runs0 | exact runs1 rfl) Ext.refl rfl ?_; apply Exists.intro; refine ⟨?_, ?_⟩
          · intro a w' hR h1
            have e1 : _ = _ := h1
            have hl0 := hR.cells _ _ c0
            have hl1 := hR.cells _ _ c1
            go_simp
            rfl
          repeat (first | (refine wpY_move0 rfl rfl (by first | exact runs0 | exact runs1 rfl) Ext.refl rfl rfl rfl ?_; apply Exists.intro; refine ⟨?_, ?_⟩; · (go_simp; rfl)) | (refine wpY_move rfl rfl (by first | exact runs0 | exact runs1 rfl) Ext.refl rfl rfl rfl (fun _ _ _ h _ => h) ?_) | (refine wpY_val rfl rfl (by first | exact runs0 | exact runs1 rfl) Ext.refl rfl ?_; apply Exists.intro; refine ⟨?_, ?_⟩; · (intro a w' hR; intro h1; (first | (have e1 : _ = _ := h1) | skip); intro h2; (first | (have e2 : _ = _ := h2) | skip); go_simp; rfl)) | (refine wpY_val rfl rfl (by first | exact runs0 | exact runs1 rfl) Ext.refl rfl ?_; apply Exists.intro; refine ⟨?_, ?_⟩; · (intro a w' hR; intro h1; (first | (have e1 : _ = _ := h1) | skip); go_simp; rfl)) | (refine wpY_val rfl rfl (by first | exact runs0 | exact runs1 rfl) Ext.refl rfl ?_; apply Exists.intro; refine ⟨?_, ?_⟩; · (intro a w' hR; go_simp; rfl)) | (refine wpY_val rfl rfl (by first | exact runs0 | exact runs1 rfl) Ext.refl rfl ?_; apply Exists.intro; refine ⟨?_, ?_⟩; · (intro a w' hR; intro h1; (first | (have e1 : _ = _ := h1) | skip); intro h2; (first | (have e2 : _ = _ := h2) | skip); intro h3; (first | (have e3 : _ = _ := h3) | skip); go_simp; rfl)) | (refine wpY_skip rfl rfl (by first | exact .inl rfl | exact .inr rfl) ?_))
          refine wpY_val rfl rfl (by first | exact runs0 | exact runs1 rfl) Ext.refl rfl ?_; apply Exists.intro; refine ⟨?_, ?_⟩
          · intro a w' hR h1
            have e1 : _ = _ := h1
            have hl0 := hR.cells _ _ c2
            have hl1 := hR.cells _ _ c3
            go_simp
            rfl
          repeat (first | (refine wpY_move0 rfl rfl (by first | exact runs0 | exact runs1 rfl) Ext.refl rfl rfl rfl ?_; apply Exists.intro; refine ⟨?_, ?_⟩; · (go_simp; rfl)) | (refine wpY_move rfl rfl (by first | exact runs0 | exact runs1 rfl) Ext.refl rfl rfl rfl (fun _ _ _ h _ => h) ?_) | (refine wpY_val rfl rfl (by first | exact runs0 | exact runs1 rfl) Ext.refl rfl ?_; apply Exists.intro; refine ⟨?_, ?_⟩; · (intro a w' hR; intro h1; (first | (have e1 : _ = _ := h1) | skip); intro h2; (first | (have e2 : _ = _ := h2) | skip); go_simp; rfl)) | (refine wpY_val rfl rfl (by first | exact runs0 | exact runs1 rfl) Ext.refl rfl ?_; apply Exists.intro; refine ⟨?_, ?_⟩; · (intro a w' hR; intro h1; (first | (have e1 : _ = _ := h1) | skip); go_simp; rfl)) | (refine wpY_val rfl rfl (by first | exact runs0 | exact runs1 rfl) Ext.refl rfl ?_; apply Exists.intro; refine ⟨?_, ?_⟩; · (intro a w' hR; go_simp; rfl)) | (refine wpY_val rfl rfl (by first | exact runs0 | exact runs1 rfl) Ext.refl rfl ?_; apply Exists.intro; refine ⟨?_, ?_⟩; · (intro a w' hR; intro h1; (first | (have e1 : _ = _ := h1) | skip); intro h2; (first | (have e2 : _ = _ := h2) | skip); intro h3; (first | (have e3 : _ = _ := h3) | skip); go_simp; rfl)) | (refine wpY_skip rfl rfl (by first | exact .inl rfl | exact .inr rfl) ?_))
          refine wpY_val rfl rfl (by first | exact runs0 | exact runs1 rfl) Ext.refl rfl ?_; apply Exists.intro; refine ⟨?_, ?_⟩
          · intro a w' hR h1
            have e1 : _ = _ := h1
            have hl0 := hR.cells _ _ c4
            go_simp
            rfl
          refine wpY_eff (fun v _ => v = .int .i64 qa) (fun w => CM w ga ba MA) rfl (by first | exact runs0 | exact runs1 rfl) rfl (by first | exact mono_eq | exact (fun _ _ _ h k => Rd.ext h k) | exact (fun _ _ _ h k => RB.ext h k) | exact (fun _ _ _ h k => OB.ext h k) | exact (fun _ _ _ h k => RB.extS h k) | exact (fun _ _ _ h k => Rd.ext h (GrownW.ext k)) | exact (fun _ _ _ h k => RP.ext h k) | exact (fun _ _ _ h k => OP.ext h k) | exact (fun _ _ _ h k => Rd.extV h k) | exact (fun _ _ _ h k => RB.extV h k) | exact (fun _ _ _ h k => E0.ext h k) | exact (fun _ _ _ h k => O0.ext h k) | exact (fun _ _ _ h k => RE.ext h k) | exact (fun _ _ _ h k => RE.extD h k) | exact (fun _ _ _ h _ => h)) (fun _ _ x y => x.ext y) ?_ ?_
          · intro a w' hR hS h1 h2 h3 h4 K hK
            have e1 : _ = _ := h1
            have e2 : _ = _ := h2
            have e3 : _ = _ := h3
            have e4 : _ = _ := h4
            go_simp
            refine (HAA.out w' hS).mono ?_
            rintro e w2 ⟨rfl, hc, he⟩
            exact hK _ _ he hc rfl
          refine wpY_done ?_
          intro w5 hx5 hS5
          iterate 17 (rintro _ rfl)
          dsimp only [FinV]
          go_simp
          have hx5 : ExtM ba wA w5 := hx5
          have d0 := hx5.cells _ _ d0
          have d1 := hx5.cells _ _ d1
          have d2 := hx5.cells _ _ d2
          have d3 := hx5.cells _ _ d3
          have d4 := hx5.cells _ _ d4
          have HCA5 := Lib.hid hS5
          have HCB5 := Lib.hid (HCB.out.extM hx5 HNE.out.2.2.1 HNE.out.2.2.2)
          have HE5 := Lib.hid (HE.out.trans (ExtM2.left hx5))
          clear hx5 hS5 c0 c1 c2 c3 c4
          go_wp2
          refine wp_regionY [94] [] Ext (ExtM bb) (fun w => CM w gb bb LB) (by kernel_rfl) (by rfl) (by rfl) (by kernel_rfl) (by kernel_rfl) (by kernel_rfl) (fun _ _ _ x y => x.trans y) (ExtM.refl bb) (fun _ _ x => ExtM.of x) (Ext.refl _).drew (fun _ _ x y => x.ext y) (HCB5.out) ?_
          repeat (first | (refine wpY_move0 rfl rfl (by first | exact runs0 | exact runs1 rfl) Ext.refl rfl rfl rfl ?_; apply Exists.intro; refine ⟨?_, ?_⟩; · (go_simp; rfl)) | (refine wpY_move rfl rfl (by first | exact runs0 | exact runs1 rfl) Ext.refl rfl rfl rfl (fun _ _ _ h _ => h) ?_) | (refine wpY_val rfl rfl (by first | exact runs0 | exact runs1 rfl) Ext.refl rfl ?_; apply Exists.intro; refine ⟨?_, ?_⟩; · (intro a w' hR; intro h1; (first | (have e1 : _ = _ := h1) | skip); intro h2; (first | (have e2 : _ = _ := h2) | skip); go_simp; rfl)) | (refine wpY_val rfl rfl (by first | exact runs0 | exact runs1 rfl) Ext.refl rfl ?_; apply Exists.intro; refine ⟨?_, ?_⟩; · (intro a w' hR; intro h1; (first | (have e1 : _ = _ := h1) | skip); go_simp; rfl)) | (refine wpY_val rfl rfl (by first | exact runs0 | exact runs1 rfl) Ext.refl rfl ?_; apply Exists.intro; refine ⟨?_, ?_⟩; · (intro a w' hR; go_simp; rfl)) | (refine wpY_val rfl rfl (by first | exact runs0 | exact runs1 rfl) Ext.refl rfl ?_; apply Exists.intro; refine ⟨?_, ?_⟩; · (intro a w' hR; intro h1; (first | (have e1 : _ = _ := h1) | skip); intro h2; (first | (have e2 : _ = _ := h2) | skip); intro h3; (first | (have e3 : _ = _ := h3) | skip); go_simp; rfl)) | (refine wpY_skip rfl rfl (by first | exact .inl rfl | exact .inr rfl) ?_))
          refine wpY_val rfl rfl (by first | exact runs0 | exact runs1 rfl) Ext.refl rfl ?_; apply Exists.intro; refine ⟨?_, ?_⟩
          · intro a w' hR h1
            have e1 : _ = _ := h1
            have hl0 := hR.cells _ _ d0
            have hl1 := hR.cells _ _ d1
            go_simp
            rfl
          repeat (first | (refine wpY_move0 rfl rfl (by first | exact runs0 | exact runs1 rfl) Ext.refl rfl rfl rfl ?_; apply Exists.intro; refine ⟨?_, ?_⟩; · (go_simp; rfl)) | (refine wpY_move rfl rfl (by first | exact runs0 | exact runs1 rfl) Ext.refl rfl rfl rfl (fun _ _ _ h _ => h) ?_) | (refine wpY_val rfl rfl (by first | exact runs0 | exact runs1 rfl) Ext.refl rfl ?_; apply Exists.intro; refine ⟨?_, ?_⟩; · (intro a w' hR; intro h1; (first | (have e1 : _ = _ := h1) | skip); intro h2; (first | (have e2 : _ = _ := h2) | skip); go_simp; rfl)) | (refine wpY_val rfl rfl (by first | exact runs0 | exact runs1 rfl) Ext.refl rfl ?_; apply Exists.intro; refine ⟨?_, ?_⟩; · (intro a w' hR; intro h1; (first | (have e1 : _ = _ := h1) | skip); go_simp; rfl)) | (refine wpY_val rfl rfl (by first | exact runs0 | exact runs1 rfl) Ext.refl rfl ?_; apply Exists.intro; refine ⟨?_, ?_⟩; · (intro a w' hR; go_simp; rfl)) | (refine wpY_val rfl rfl (by first | exact runs0 | exact runs1 rfl) Ext.refl rfl ?_; apply Exists.intro; refine ⟨?_, ?_⟩; · (intro a w' hR; intro h1; (first | (have e1 : _ = _ := h1) | skip); intro h2; (first | (have e2 : _ = _ := h2) | skip); intro h3; (first | (have e3 : _ = _ := h3) | skip); go_simp; rfl)) | (refine wpY_skip rfl rfl (by first | exact .inl rfl | exact .inr rfl) ?_))
          refine wpY_val rfl rfl (by first | exact runs0 | exact runs1 rfl) Ext.refl rfl ?_; apply Exists.intro; refine ⟨?_, ?_⟩
          · intro a w' hR h1
            have e1 : _ = _ := h1
            have hl0 := hR.cells _ _ d2
            have hl1 := hR.cells _ _ d3
            go_simp
            rfl
          repeat (first | (refine wpY_move0 rfl rfl (by first | exact runs0 | exact runs1 rfl) Ext.refl rfl rfl rfl ?_; apply Exists.intro; refine ⟨?_, ?_⟩; · (go_simp; rfl)) | (refine wpY_move rfl rfl (by first | exact runs0 | exact runs1 rfl) Ext.refl rfl rfl rfl (fun _ _ _ h _ => h) ?_) | (refine wpY_val rfl rfl (by first | exact runs0 | exact runs1 rfl) Ext.refl rfl ?_; apply Exists.intro; refine ⟨?_, ?_⟩; · (intro a w' hR; intro h1; (first | (have e1 : _ = _ := h1) | skip); intro h2; (first | (have e2 : _ = _ := h2) | skip); go_simp; rfl)) | (refine wpY_val rfl rfl (by first | exact runs0 | exact runs1 rfl) Ext.refl rfl ?_; apply Exists.intro; refine ⟨?_, ?_⟩; · (intro a w' hR; intro h1; (first | (have e1 : _ = _ := h1) | skip); go_simp; rfl)) | (refine wpY_val rfl rfl (by first | exact runs0 | exact runs1 rfl) Ext.refl rfl ?_; apply Exists.intro; refine ⟨?_, ?_⟩; · (intro a w' hR; go_simp; rfl)) | (refine wpY_val rfl rfl (by first | exact runs0 | exact runs1 rfl) Ext.refl rfl ?_; apply Exists.intro; refine ⟨?_, ?_⟩; · (intro a w' hR; intro h1; (first | (have e1 : _ = _ := h1) | skip); intro h2; (first | (have e2 : _ = _ := h2) | skip); intro h3; (first | (have e3 : _ = _ := h3) | skip); go_simp; rfl)) | (refine wpY_skip rfl rfl (by first | exact .inl rfl | exact .inr rfl) ?_))
          refine wpY_val rfl rfl (by first | exact runs0 | exact runs1 rfl) Ext.refl rfl ?_; apply Exists.intro; refine ⟨?_, ?_⟩
          · intro a w' hR h1
            have e1 : _ = _ := h1
            have hl0 := hR.cells _ _ d4
            go_simp
            rfl
          refine wpY_eff (fun v _ => v = .int .i64 qb) (fun w => CM w gb bb MB) rfl (by first | exact runs0 | exact runs1 rfl) rfl (by first | exact mono_eq | exact (fun _ _ _ h k => Rd.ext h k) | exact (fun _ _ _ h k => RB.ext h k) | exact (fun _ _ _ h k => OB.ext h k) | exact (fun _ _ _ h k => RB.extS h k) | exact (fun _ _ _ h k => Rd.ext h (GrownW.ext k)) | exact (fun _ _ _ h k => RP.ext h k) | exact (fun _ _ _ h k => OP.ext h k) | exact (fun _ _ _ h k => Rd.extV h k) | exact (fun _ _ _ h k => RB.extV h k) | exact (fun _ _ _ h k => E0.ext h k) | exact (fun _ _ _ h k => O0.ext h k) | exact (fun _ _ _ h k => RE.ext h k) | exact (fun _ _ _ h k => RE.extD h k) | exact (fun _ _ _ h _ => h)) (fun _ _ x y => x.ext y) ?_ ?_
          · intro a w' hR hS h1 h2 h3 h4 K hK
            have e1 : _ = _ := h1
            have e2 : _ = _ := h2
            have e3 : _ = _ := h3
            have e4 : _ = _ := h4
            go_simp
            refine (HAB.out w' hS).mono ?_
            rintro e w2 ⟨rfl, hc, he⟩
            exact hK _ _ he hc rfl
          refine wpY_done ?_
          intro w6 hx6 hS6
          iterate 17 (rintro _ rfl)
          dsimp only [FinV]
          go_simp
          have hx6 : ExtM bb w5 w6 := hx6
          have HCB6 := Lib.hid hS6
          have HCA6 := Lib.hid (HCA5.out.extM hx6 HNE.out.1 HNE.out.2.1)
          have HE6 := Lib.hid (HE5.out.trans (ExtM2.right hx6))
          clear hx6 hS6
          go_wp2
          exact ⟨⟨k + 1, MA, MB, by omega, by go_num, HCA6.out, HCB6.out, HSA.out, HSB.out, by omega, by omega, HE6.out⟩, by simp [intOf]; omega⟩
        · obtain rfl : k = l.length := by omega
          have g3 : ¬ (l.length : Int) < (l.length : Int) := by omega
          rw [List.take_length] at hsa
          rw [lastS_all] at hsb
          obtain rfl := hsa.same hsb (List.reverse_perm l).symm
          have hgd := hca.good
          clear hca hcb hsa hsb hext
          have HTA := Lib.hid (fun w h => total_any w ga ba LA h (by omega))
          have HTB := Lib.hid (fun w h => total_any w gb bb LA h (by omega))
          generalize Cnt.tot LA = tt at *
          go_wp2_with fail
          refine (stamps_any wA ga ba LA HCA.out (by omega)).mono ?_
          rintro e w5 ⟨v5, rfl, ho5, hx5⟩
          have HR5 := Lib.hid ho5.re
          obtain ⟨A5, c5, rfl⟩ := ho5.re.form
          have HCA5 := Lib.hid (HCA.out.ext hx5)
          have HCB5 := Lib.hid (HCB.out.ext hx5)
          have HW5 := Lib.hid (HW.out.trans hx5)
          clear ho5 hx5
          go_wp2_with fail
          refine (stamps_any w5 gb bb LA HCB5.out (by omega)).mono ?_
          rintro e w6 ⟨v6, rfl, ho6, hx6⟩
          have HR6 := Lib.hid (HR5.out.ext hx6)
          have HS6 := Lib.hid ho6.re
          obtain ⟨A6, c6, rfl⟩ := ho6.re.form
          have HCA6 := Lib.hid (HCA5.out.ext hx6)
          have HCB6 := Lib.hid (HCB5.out.ext hx6)
          have HW6 := Lib.hid (HW5.out.trans hx6)
          clear ho6 hx6
          go_wp2_with fail
          refine (HTA.out w6 HCA6.out).mono ?_
          rintro e w7 ⟨rfl, hx7⟩
          have HCB7 := Lib.hid (HCB6.out.ext hx7)
          have HR7 := Lib.hid (HR6.out.ext hx7)
          have HS7 := Lib.hid (HS6.out.ext hx7)
          have HW7 := Lib.hid (HW6.out.trans hx7)
          clear hx7
          go_wp2_with fail
          refine (HTB.out w7 HCB7.out).mono ?_
          rintro e w8 ⟨rfl, hx8⟩
          have HR8 := Lib.hid (HR7.out.ext hx8)
          have HS8 := Lib.hid (HS7.out.ext hx8)
          have HW8 := Lib.hid (HW7.out.trans hx8)
          clear hx8 HCA HCB HE HW HCA5 HCB5 HW5 HR5 HR6 HS6 HCA6 HCB6 HW6 HCB7 HR7 HS7 HW7 HTA HTB
          go_wp2
          go_loopw [10] (fun iv wr => ∃ i : Nat, i ≤ LA.length ∧ iv = .int .i64 i ∧ Ext w8 wr) (fun iv _ => LA.length - (intOf iv).toNat)
          case atStart => exact ⟨0, Nat.zero_le _, rfl, Ext.refl _⟩
          case round =>
            obtain ⟨i, hi, rfl, hx9⟩ := hrel
            have HX9 := Lib.hid hx9
            by_cases hil : i < LA.length
            · have g5 : (i : Int) < (LA.length : Int) := by omega
              have g6 : 0 ≤ (i : Int) := by omega
              obtain ⟨bX, oX, hAX, c0, c1, c2, c3, c4⟩ := re5 (HR8.out.ext hx9) hil
              subst hAX
              obtain ⟨bY, oY, hAY, d0, d1, d2, d3, d4⟩ := re5 (HS8.out.ext hx9) hil
              subst hAY
              have hnum := (hgd.num _ (List.getElem_mem hil)).1
              generalize LA[i] = x at *
              have hExx := fun w => neS x x w
              rw [show stB x x = true by unfold stB; simp] at hExx
              have hG := guardS
              obtain ⟨⟨⟨x1, x2⟩, x3, x4⟩, x5⟩ := x
              dsimp only [sV] at *
              have hn2 : ¬ x5 < 1 := by omega
              clear hx9
              go_wp2
              refine wp_region_ext (by kernel_rfl) (by rfl) (by rfl) (by kernel_rfl) ?_
              repeat (first | ((first | (refine wpM_move00 Ext.refl rfl rfl rfl ?_) | (refine wpM_move01 Ext.refl rfl rfl rfl rfl ?_)); apply Exists.intro; refine ⟨?_, ?_⟩; · (go_simp; rfl)) | (first | (refine wpM_movek0 Ext.refl rfl rfl rfl ?_) | (refine wpM_movek1 Ext.refl rfl rfl rfl rfl ?_)) | ((first | (refine wpM_val0 Ext.refl rfl ?_) | (refine wpM_val1 Ext.refl rfl rfl ?_)); apply Exists.intro; refine ⟨?_, ?_⟩; · (intro a w' hR; intro h1; (first | (have e1 : _ = _ := h1) | skip); intro h2; (first | (have e2 : _ = _ := h2) | skip); go_simp; rfl)) | ((first | (refine wpM_val0 Ext.refl rfl ?_) | (refine wpM_val1 Ext.refl rfl rfl ?_)); apply Exists.intro; refine ⟨?_, ?_⟩; · (intro a w' hR; intro h1; (first | (have e1 : _ = _ := h1) | skip); go_simp; rfl)) | ((first | (refine wpM_val0 Ext.refl rfl ?_) | (refine wpM_val1 Ext.refl rfl rfl ?_)); apply Exists.intro; refine ⟨?_, ?_⟩; · (intro a w' hR; go_simp; rfl)) | ((first | (refine wpM_val0 Ext.refl rfl ?_) | (refine wpM_val1 Ext.refl rfl rfl ?_)); apply Exists.intro; refine ⟨?_, ?_⟩; · (intro a w' hR; intro h1; (first | (have e1 : _ = _ := h1) | skip); intro h2; (first | (have e2 : _ = _ := h2) | skip); intro h3; (first | (have e3 : _ = _ := h3) | skip); go_simp; rfl)) | (refine wpM_skip1 rfl ?_))
              (first | (refine wpM_val0 Ext.refl rfl ?_) | (refine wpM_val1 Ext.refl rfl rfl ?_)); apply Exists.intro; refine ⟨?_, ?_⟩
              · intro a w' hR h1
                have e1 : _ = _ := h1
                have hl0 := hR.cell c0
                have hl1 := hR.cell c1
                have hl2 := hR.cell c2
                have hl3 := hR.cell c3
                have hl4 := hR.cell c4
                go_simp
                rfl
              repeat (first | ((first | (refine wpM_move00 Ext.refl rfl rfl rfl ?_) | (refine wpM_move01 Ext.refl rfl rfl rfl rfl ?_)); apply Exists.intro; refine ⟨?_, ?_⟩; · (go_simp; rfl)) | (first | (refine wpM_movek0 Ext.refl rfl rfl rfl ?_) | (refine wpM_movek1 Ext.refl rfl rfl rfl rfl ?_)) | ((first | (refine wpM_val0 Ext.refl rfl ?_) | (refine wpM_val1 Ext.refl rfl rfl ?_)); apply Exists.intro; refine ⟨?_, ?_⟩; · (intro a w' hR; intro h1; (first | (have e1 : _ = _ := h1) | skip); intro h2; (first | (have e2 : _ = _ := h2) | skip); go_simp; rfl)) | ((first | (refine wpM_val0 Ext.refl rfl ?_) | (refine wpM_val1 Ext.refl rfl rfl ?_)); apply Exists.intro; refine ⟨?_, ?_⟩; · (intro a w' hR; intro h1; (first | (have e1 : _ = _ := h1) | skip); go_simp; rfl)) | ((first | (refine wpM_val0 Ext.refl rfl ?_) | (refine wpM_val1 Ext.refl rfl rfl ?_)); apply Exists.intro; refine ⟨?_, ?_⟩; · (intro a w' hR; go_simp; rfl)) | ((first | (refine wpM_val0 Ext.refl rfl ?_) | (refine wpM_val1 Ext.refl rfl rfl ?_)); apply Exists.intro; refine ⟨?_, ?_⟩; · (intro a w' hR; intro h1; (first | (have e1 : _ = _ := h1) | skip); intro h2; (first | (have e2 : _ = _ := h2) | skip); intro h3; (first | (have e3 : _ = _ := h3) | skip); go_simp; rfl)) | (refine wpM_skip1 rfl ?_))
              (first | (refine wpM_val0 Ext.refl rfl ?_) | (refine wpM_val1 Ext.refl rfl rfl ?_)); apply Exists.intro; refine ⟨?_, ?_⟩
              · intro a w' hR h1
                have e1 : _ = _ := h1
                have hl0 := hR.cell d0
                have hl1 := hR.cell d1
                have hl2 := hR.cell d2
                have hl3 := hR.cell d3
                have hl4 := hR.cell d4
                go_simp
                rfl
              repeat (first | ((first | (refine wpM_move00 Ext.refl rfl rfl rfl ?_) | (refine wpM_move01 Ext.refl rfl rfl rfl rfl ?_)); apply Exists.intro; refine ⟨?_, ?_⟩; · (go_simp; rfl)) | (first | (refine wpM_movek0 Ext.refl rfl rfl rfl ?_) | (refine wpM_movek1 Ext.refl rfl rfl rfl rfl ?_)) | ((first | (refine wpM_val0 Ext.refl rfl ?_) | (refine wpM_val1 Ext.refl rfl rfl ?_)); apply Exists.intro; refine ⟨?_, ?_⟩; · (intro a w' hR; intro h1; (first | (have e1 : _ = _ := h1) | skip); intro h2; (first | (have e2 : _ = _ := h2) | skip); go_simp; rfl)) | ((first | (refine wpM_val0 Ext.refl rfl ?_) | (refine wpM_val1 Ext.refl rfl rfl ?_)); apply Exists.intro; refine ⟨?_, ?_⟩; · (intro a w' hR; intro h1; (first | (have e1 : _ = _ := h1) | skip); go_simp; rfl)) | ((first | (refine wpM_val0 Ext.refl rfl ?_) | (refine wpM_val1 Ext.refl rfl rfl ?_)); apply Exists.intro; refine ⟨?_, ?_⟩; · (intro a w' hR; go_simp; rfl)) | ((first | (refine wpM_val0 Ext.refl rfl ?_) | (refine wpM_val1 Ext.refl rfl rfl ?_)); apply Exists.intro; refine ⟨?_, ?_⟩; · (intro a w' hR; intro h1; (first | (have e1 : _ = _ := h1) | skip); intro h2; (first | (have e2 : _ = _ := h2) | skip); intro h3; (first | (have e3 : _ = _ := h3) | skip); go_simp; rfl)) | (refine wpM_skip1 rfl ?_))
              (first | (refine wpM_val0 Ext.refl rfl ?_) | (refine wpM_val1 Ext.refl rfl rfl ?_)); apply Exists.intro; refine ⟨?_, ?_⟩
              · intro a w' hR h1
                have e1 : _ = _ := h1
                have hl0 := hR.cell c4
                go_simp
                rfl
              repeat (first | ((first | (refine wpM_move00 Ext.refl rfl rfl rfl ?_) | (refine wpM_move01 Ext.refl rfl rfl rfl rfl ?_)); apply Exists.intro; refine ⟨?_, ?_⟩; · (go_simp; rfl)) | (first | (refine wpM_movek0 Ext.refl rfl rfl rfl ?_) | (refine wpM_movek1 Ext.refl rfl rfl rfl rfl ?_)) | ((first | (refine wpM_val0 Ext.refl rfl ?_) | (refine wpM_val1 Ext.refl rfl rfl ?_)); apply Exists.intro; refine ⟨?_, ?_⟩; · (intro a w' hR; intro h1; (first | (have e1 : _ = _ := h1) | skip); intro h2; (first | (have e2 : _ = _ := h2) | skip); go_simp; rfl)) | ((first | (refine wpM_val0 Ext.refl rfl ?_) | (refine wpM_val1 Ext.refl rfl rfl ?_)); apply Exists.intro; refine ⟨?_, ?_⟩; · (intro a w' hR; intro h1; (first | (have e1 : _ = _ := h1) | skip); go_simp; rfl)) | ((first | (refine wpM_val0 Ext.refl rfl ?_) | (refine wpM_val1 Ext.refl rfl rfl ?_)); apply Exists.intro; refine ⟨?_, ?_⟩; · (intro a w' hR; go_simp; rfl)) | ((first | (refine wpM_val0 Ext.refl rfl ?_) | (refine wpM_val1 Ext.refl rfl rfl ?_)); apply Exists.intro; refine ⟨?_, ?_⟩; · (intro a w' hR; intro h1; (first | (have e1 : _ = _ := h1) | skip); intro h2; (first | (have e2 : _ = _ := h2) | skip); intro h3; (first | (have e3 : _ = _ := h3) | skip); go_simp; rfl)) | (refine wpM_skip1 rfl ?_))
              refine wpM_done ?_
              intro w10 hx10
              iterate 17 (rintro _ rfl)
              dsimp only [FinV]
              go_simp
              have HX10 := Lib.hid (HX9.out.trans hx10)
              clear hx10
              go_wp2
              exact ⟨⟨i + 1, by omega, by go_num, HX10.out⟩, by simp [intOf]; omega⟩
            · obtain rfl : i = LA.length := by omega
              have g5 : ¬ (LA.length : Int) < (LA.length : Int) := by omega
              clear hx9
              go_wp2
              go_ret
              exact ⟨rfl, HW8.out.trans HX9.out⟩
theorem countOrder_law (w : World) (v : Value) (l : List Cnt.S) (hv : RE w v l) : Calls Try.prog 6 #[v] w fun e w' => e = .returned (.bool true) ∧ Ext w w' := by
  by_cases hl : 60 < l.length
  · exact order_long v l w hv hl
  · exact order_short v l w hv (by omega)
end Go.Proofs.Ytngdlahgihbmhaa
