/-
  The walk of oxbowref04.Front.
-/
import Derived.Test.YtbokblklldphgaaMomFR
import Derived.Test.YtbokblklldphgaaMem
import Derived.Test.YtbokblklldphgaaEff2
import Derived.Test.YtbokblklldphgaaApp0
namespace Go.Proofs.Ytbokblklldphgaa.Mo
open Go.RowKit Go.Ox
set_option linter.unusedVariables false
attribute [local irreducible] OP RP

/-! ### plain -/
/-- of the first k: is none other ahead? -/
def leastB (l : List Mom.M) (m : Mom.M) : Bool := l.all fun k => decide (k = m) || !Mom.ahead k m
theorem leastB_s (l : List Mom.M) (m : Mom.M) (k : Nat) (h : k < l.length) : leastB (l.take (k + 1)) m = (leastB (l.take k) m && (decide (l[k] = m) || !Mom.ahead l[k] m)) := by
  unfold leastB
  rw [List.take_succ_eq_append_getElem h, List.all_append]; simp
theorem rfront_s (l : List Mom.M) (k : Nat) (h : k < l.length) : (l.take (k + 1)).foldl (Mom.rstep l) [] = Mom.rstep l ((l.take k).foldl (Mom.rstep l) []) l[k] := by
  rw [List.take_succ_eq_append_getElem h, List.foldl_append]; rfl
theorem ins_len (out : List Mom.M) (m : Mom.M) : (Mom.ins out m).length ≤ out.length + 1 := by
  unfold Mom.ins
  split
  · omega
  · rw [List.length_append, List.length_cons, List.length_take, List.length_drop]; omega
theorem rfold_len (l : List Mom.M) : ∀ (s out : List Mom.M), (s.foldl (Mom.rstep l) out).length ≤ out.length + s.length
  | [], out => by simp
  | m :: s, out => by
    have := rfold_len l s (Mom.rstep l out m)
    have h2 : (Mom.rstep l out m).length ≤ out.length + 1 := by
      unfold Mom.rstep
      split
      · exact ins_len out m
      · omega
    rw [List.foldl_cons, List.length_cons]; omega
/-- the first j stand ahead, the next one does not: that is the place -/
theorem place_at (out : List Mom.M) (m : Mom.M) (j : Nat) (hj : j ≤ out.length) (h1 : ∀ x ∈ out.take j, Mom.cmp x m < 0) (h2 : ∀ h : j < out.length, ¬ Mom.cmp out[j] m < 0) : Mom.place out m = j := by
  unfold Mom.place
  induction out generalizing j with
  | nil => simp at hj; subst hj; rfl
  | cons a out ih =>
    cases j with
    | zero =>
      have := h2 (by simp)
      rw [List.takeWhile_cons, if_neg (by simpa using this)]; rfl
    | succ j =>
      have := h1 a (by simp)
      rw [List.takeWhile_cons, if_pos (by simpa using this), List.length_cons, ih j (by simpa using hj) (fun x hx => h1 x (by simp [hx])) (fun h => by have := h2 (by simp; omega); rwa [List.getElem_cons_succ] at this)]
theorem lt_take_s {out : List Mom.M} {m : Mom.M} {j : Nat} (hj : j < out.length) (h1 : ∀ x ∈ out.take j, Mom.cmp x m < 0) (h2 : Mom.cmp out[j] m < 0) : ∀ x ∈ out.take (j + 1), Mom.cmp x m < 0 := by
  intro x hx
  rw [List.take_succ_eq_append_getElem hj] at hx
  rcases List.mem_append.1 hx with h | h
  · exact h1 x h
  · rw [List.mem_singleton.1 h]; exact h2
theorem rstep_skip (l out : List Mom.M) (m : Mom.M) (h : Mom.least l m = false) : Mom.rstep l out m = out := by
  unfold Mom.rstep; rw [if_neg (by simp [h])]
theorem rstep_there (l out : List Mom.M) (m : Mom.M) (j : Nat) (hp : Mom.place out m = j) (hj : j < out.length) (he : out[j] = m) : Mom.rstep l out m = out := by
  unfold Mom.rstep Mom.ins
  subst hp
  rw [List.getElem?_eq_getElem hj, he]; simp
theorem rstep_ins (l out : List Mom.M) (m : Mom.M) (j : Nat) (h : Mom.least l m = true) (hp : Mom.place out m = j) (hn : ∀ hj : j < out.length, out[j] ≠ m) : Mom.rstep l out m = out.take j ++ [m] ++ out.drop j := by
  unfold Mom.rstep Mom.ins
  subst hp
  rw [if_pos h, if_neg]
  · simp
  · intro he
    obtain ⟨hj, he⟩ := List.getElem?_eq_some_iff.1 he
    exact hn hj he
unseal RP in
theorem RP.lo {t e : TypeId} {z : Value} {bytes c : Nat} {P : Program} {A : Option Addr} {l : List (Int × Int)} (el : Elem P t e z 2 bytes) {w : World} (h : RP w (.slice A l.length c) l) {k : Nat} (hk : k ≤ l.length) :
    ∃ A', (∀ w', (Instr.slice t (.slice A l.length c) (some (.int .i64 (k : Int))) none none).run P w' = .ok (.slice A' (l.length - k) (c - k)) w') ∧ RP w (.slice A' (l.length - k) (c - k)) (l.drop k) := by
  obtain ⟨A', h1, h2⟩ := Rd.lo el h hk (k : Int) rfl
  rw [pV_drop] at h2
  refine ⟨A', h1, ?_⟩
  unfold RP
  rw [List.length_drop]
  exact h2
unseal RP in
theorem RP.hi {t e : TypeId} {z : Value} {bytes c : Nat} {P : Program} {A : Option Addr} {l : List (Int × Int)} (el : Elem P t e z 2 bytes) {w : World} (h : RP w (.slice A l.length c) l) {k : Nat} (hk : k ≤ l.length) :
    (∀ w', (Instr.slice t (.slice A l.length c) none (some (.int .i64 (k : Int))) none).run P w' = .ok (.slice A k c) w') ∧ RP w (.slice A k c) (l.take k) := by
  obtain ⟨A0, c0, he, h⟩ := h
  injection he with h1 h2 h3
  subst h1; subst h3
  obtain ⟨i, hi, hz, hs, hb⟩ := el.info
  have hnc := h.nc
  refine ⟨fun w' => ?_, ?_⟩
  · have : ((k : Int) ≤ (c : Int)) := by omega
    simp [Instr.slice, run_underlying el.under, Instr.sliceBounds, run_sliceBound w' .i64 (k : Int) c .sliceAcap (by omega) this, sizeOf, typeInfo, hi]
    cases A <;> simp [Addr.add]
  · refine ⟨A, c, ?_, ?_⟩
    · rw [List.length_take, Nat.min_eq_left hk]
    · rw [List.length_take, Nat.min_eq_left hk, ← pV_take]
      exact h.take hk
/-! ### the walk -/
unseal OP in
theorem O0.op {base e : Nat} {l : List (Int × Int)} {v : Value} {w : World} (h : O0 base e 2 l.length (pV l) v w) : OP e base w v l := h
set_option maxRecDepth 100000 in
set_option maxHeartbeats 8000000 in
theorem rfront_any (v : Value) (l : List Mom.M) (w : World) (hv : RP w v l) (hl : l.length ≤ 1000000) :
    Calls Try.prog 36 #[v] w fun e w' => ∃ v', e = .returned v' ∧ OP 29 w.heap.size w' v' (Mom.rfront l) ∧ Ext w w' := by
  obtain ⟨A, c, rfl⟩ := hv.form
  have HV := Lib.hid hv
  have hE := neM
  have hE2 := eqM
  have hG := guardM
  clear hv
  go_enter Try.func36, Try.ntmps36
  go_wp2
  go_loopw [3, 4] (fun o i wr => ∃ k : Nat, k ≤ l.length ∧ i = .int .i64 k ∧ OP 29 w.heap.size wr o ((l.take k).foldl (Mom.rstep l) []) ∧ Ext w wr) (fun _ i _ => l.length - (intOf i).toNat)
  case atStart => exact ⟨0, Nat.zero_le _, rfl, OP.nilS _ _ _, Ext.refl _⟩
  case round =>
    obtain ⟨i, hi, rfl, ho, hext⟩ := hrel
    rename World => wA
    have HO := Lib.hid ho
    have HX := Lib.hid hext
    clear ho hext
    by_cases hlt : i < l.length
    · have g1 : (i : Int) < (l.length : Int) := by omega
      have g0 : 0 ≤ (i : Int) := by omega
      obtain ⟨b, o, rfl, c0, c1⟩ := HV.out.at_ hlt
      have c0 := HX.out.cell c0
      have c1 := HX.out.cell c1
      have HS := Lib.hid (rfront_s l i hlt)
      have hFl := rfold_len l (l.take i) []
      rw [List.length_nil, Nat.zero_add, List.length_take, Nat.min_eq_left hi] at hFl
      generalize (l.take i).foldl (Mom.rstep l) [] = F at *
      obtain ⟨AF, cF, rfl⟩ := HO.out.rp.form
      generalize l[i] = m at *
      obtain ⟨m1, m2⟩ := m
      dsimp only at *
      go_wp2
      go_loopw [5, 6] (fun lv kv wr2 => ∃ j : Nat, j ≤ l.length ∧ kv = .int .i64 j ∧ lv = .bool (leastB (l.take j) (m1, m2)) ∧ Ext wA wr2) (fun _ kv _ => l.length - (intOf kv).toNat)
      case atStart => exact ⟨0, Nat.zero_le _, rfl, rfl, Ext.refl _⟩
      case round =>
        obtain ⟨j, hj, rfl, rfl, hext2⟩ := hrel
        have HX2 := Lib.hid hext2
        clear hext2
        by_cases hjl : j < l.length
        · have q1 : (j : Int) < (l.length : Int) := by omega
          have q0 : 0 ≤ (j : Int) := by omega
          obtain ⟨b9, o9, he9, c2, c3⟩ := HV.out.at_ hjl
          cases he9
          have c2 := (HX.out.trans HX2.out).cell c2
          have c3 := (HX.out.trans HX2.out).cell c3
          have d0 := HX2.out.cell c0
          have d1 := HX2.out.cell c1
          have HLS := Lib.hid (leastB_s l (m1, m2) j hjl)
          have HAH := Lib.hid (fun w => rahead_any l[j] (m1, m2) w)
          generalize l[j] = x at *
          obtain ⟨x1, x2⟩ := x
          dsimp only at *
          by_cases hxy : (x1, x2) = (m1, m2)
          · have hd := pairB_t hxy
            have HN := Lib.hid (show leastB (l.take (j + 1)) (m1, m2) = leastB (l.take j) (m1, m2) by rw [HLS.out, decide_eq_true hxy]; simp)
            clear hxy HLS HAH
            generalize leastB (l.take j) (m1, m2) = bj at *
            go_wp2
            refine wp_region_ext (by kernel_rfl) (by rfl) (by rfl) (by kernel_rfl) ?_
            repeat (first | ((first | (refine wpM_move00 Ext.refl rfl rfl rfl ?_) | (refine wpM_move01 Ext.refl rfl rfl rfl rfl ?_)); apply Exists.intro; refine ⟨?_, ?_⟩; · (go_simp; rfl)) | (first | (refine wpM_movek0 Ext.refl rfl rfl rfl ?_) | (refine wpM_movek1 Ext.refl rfl rfl rfl rfl ?_)) | ((first | (refine wpM_val0 Ext.refl rfl ?_) | (refine wpM_val1 Ext.refl rfl rfl ?_)); apply Exists.intro; refine ⟨?_, ?_⟩; · (intro a w' hR; intro h1; (first | (have e1 : _ = _ := h1) | skip); intro h2; (first | (have e2 : _ = _ := h2) | skip); go_simp; rfl)) | ((first | (refine wpM_val0 Ext.refl rfl ?_) | (refine wpM_val1 Ext.refl rfl rfl ?_)); apply Exists.intro; refine ⟨?_, ?_⟩; · (intro a w' hR; intro h1; (first | (have e1 : _ = _ := h1) | skip); go_simp; rfl)) | ((first | (refine wpM_val0 Ext.refl rfl ?_) | (refine wpM_val1 Ext.refl rfl rfl ?_)); apply Exists.intro; refine ⟨?_, ?_⟩; · (intro a w' hR; go_simp; rfl)) | ((first | (refine wpM_val0 Ext.refl rfl ?_) | (refine wpM_val1 Ext.refl rfl rfl ?_)); apply Exists.intro; refine ⟨?_, ?_⟩; · (intro a w' hR; intro h1; (first | (have e1 : _ = _ := h1) | skip); intro h2; (first | (have e2 : _ = _ := h2) | skip); intro h3; (first | (have e3 : _ = _ := h3) | skip); go_simp; rfl)) | (refine wpM_skip1 rfl ?_) | (refine wpM_skipU rfl ?_))
            first | (refine wpM_val0 Ext.refl rfl ?_) | (refine wpM_val1 Ext.refl rfl rfl ?_)
            apply Exists.intro; refine ⟨?_, ?_⟩
            · intro a w' hR h1
              have e1 : _ = _ := h1
              have hl0 := hR.cell c2
              have hl1 := hR.cell c3
              go_simp
              rfl
            repeat (first | ((first | (refine wpM_move00 Ext.refl rfl rfl rfl ?_) | (refine wpM_move01 Ext.refl rfl rfl rfl rfl ?_)); apply Exists.intro; refine ⟨?_, ?_⟩; · (go_simp; rfl)) | (first | (refine wpM_movek0 Ext.refl rfl rfl rfl ?_) | (refine wpM_movek1 Ext.refl rfl rfl rfl rfl ?_)) | ((first | (refine wpM_val0 Ext.refl rfl ?_) | (refine wpM_val1 Ext.refl rfl rfl ?_)); apply Exists.intro; refine ⟨?_, ?_⟩; · (intro a w' hR; intro h1; (first | (have e1 : _ = _ := h1) | skip); intro h2; (first | (have e2 : _ = _ := h2) | skip); go_simp; rfl)) | ((first | (refine wpM_val0 Ext.refl rfl ?_) | (refine wpM_val1 Ext.refl rfl rfl ?_)); apply Exists.intro; refine ⟨?_, ?_⟩; · (intro a w' hR; intro h1; (first | (have e1 : _ = _ := h1) | skip); go_simp; rfl)) | ((first | (refine wpM_val0 Ext.refl rfl ?_) | (refine wpM_val1 Ext.refl rfl rfl ?_)); apply Exists.intro; refine ⟨?_, ?_⟩; · (intro a w' hR; go_simp; rfl)) | ((first | (refine wpM_val0 Ext.refl rfl ?_) | (refine wpM_val1 Ext.refl rfl rfl ?_)); apply Exists.intro; refine ⟨?_, ?_⟩; · (intro a w' hR; intro h1; (first | (have e1 : _ = _ := h1) | skip); intro h2; (first | (have e2 : _ = _ := h2) | skip); intro h3; (first | (have e3 : _ = _ := h3) | skip); go_simp; rfl)) | (refine wpM_skip1 rfl ?_) | (refine wpM_skipU rfl ?_))
            first | (refine wpM_val0 Ext.refl rfl ?_) | (refine wpM_val1 Ext.refl rfl rfl ?_)
            apply Exists.intro; refine ⟨?_, ?_⟩
            · intro a w' hR h1
              have e1 : _ = _ := h1
              have hl0 := hR.cell d0
              have hl1 := hR.cell d1
              go_simp
              rfl
            repeat (first | ((first | (refine wpM_move00 Ext.refl rfl rfl rfl ?_) | (refine wpM_move01 Ext.refl rfl rfl rfl rfl ?_)); apply Exists.intro; refine ⟨?_, ?_⟩; · (go_simp; rfl)) | (first | (refine wpM_movek0 Ext.refl rfl rfl rfl ?_) | (refine wpM_movek1 Ext.refl rfl rfl rfl rfl ?_)) | ((first | (refine wpM_val0 Ext.refl rfl ?_) | (refine wpM_val1 Ext.refl rfl rfl ?_)); apply Exists.intro; refine ⟨?_, ?_⟩; · (intro a w' hR; intro h1; (first | (have e1 : _ = _ := h1) | skip); intro h2; (first | (have e2 : _ = _ := h2) | skip); go_simp; rfl)) | ((first | (refine wpM_val0 Ext.refl rfl ?_) | (refine wpM_val1 Ext.refl rfl rfl ?_)); apply Exists.intro; refine ⟨?_, ?_⟩; · (intro a w' hR; intro h1; (first | (have e1 : _ = _ := h1) | skip); go_simp; rfl)) | ((first | (refine wpM_val0 Ext.refl rfl ?_) | (refine wpM_val1 Ext.refl rfl rfl ?_)); apply Exists.intro; refine ⟨?_, ?_⟩; · (intro a w' hR; go_simp; rfl)) | ((first | (refine wpM_val0 Ext.refl rfl ?_) | (refine wpM_val1 Ext.refl rfl rfl ?_)); apply Exists.intro; refine ⟨?_, ?_⟩; · (intro a w' hR; intro h1; (first | (have e1 : _ = _ := h1) | skip); intro h2; (first | (have e2 : _ = _ := h2) | skip); intro h3; (first | (have e3 : _ = _ := h3) | skip); go_simp; rfl)) | (refine wpM_skip1 rfl ?_) | (refine wpM_skipU rfl ?_))
            refine wpM_done ?_
            intro w5 hx5
            iterate 20 (rintro _ rfl)
            dsimp only [FinV]
            go_simp
            have HX5 := Lib.hid (HX2.out.trans hx5)
            clear hx5
            go_wp2
            exact ⟨⟨j + 1, by omega, by go_num, by rw [HN.out], HX5.out⟩, by simp [intOf]; omega⟩
          · have hd := pairB_f hxy
            have hdf := decide_eq_false hxy
            cases hq : Mom.ahead (x1, x2) (m1, m2) with
            | true =>
              have HN := Lib.hid (show leastB (l.take (j + 1)) (m1, m2) = false by rw [HLS.out, hdf, hq]; simp)
              rw [hq] at HAH
              clear hxy HLS hq hdf
              generalize leastB (l.take j) (m1, m2) = bj at *
              go_wp2
              refine wp_region_ext (by kernel_rfl) (by rfl) (by rfl) (by kernel_rfl) ?_
              repeat (first | ((first | (refine wpM_move00 Ext.refl rfl rfl rfl ?_) | (refine wpM_move01 Ext.refl rfl rfl rfl rfl ?_)); apply Exists.intro; refine ⟨?_, ?_⟩; · (go_simp; rfl)) | (first | (refine wpM_movek0 Ext.refl rfl rfl rfl ?_) | (refine wpM_movek1 Ext.refl rfl rfl rfl rfl ?_)) | ((first | (refine wpM_val0 Ext.refl rfl ?_) | (refine wpM_val1 Ext.refl rfl rfl ?_)); apply Exists.intro; refine ⟨?_, ?_⟩; · (intro a w' hR; intro h1; (first | (have e1 : _ = _ := h1) | skip); intro h2; (first | (have e2 : _ = _ := h2) | skip); go_simp; rfl)) | ((first | (refine wpM_val0 Ext.refl rfl ?_) | (refine wpM_val1 Ext.refl rfl rfl ?_)); apply Exists.intro; refine ⟨?_, ?_⟩; · (intro a w' hR; intro h1; (first | (have e1 : _ = _ := h1) | skip); go_simp; rfl)) | ((first | (refine wpM_val0 Ext.refl rfl ?_) | (refine wpM_val1 Ext.refl rfl rfl ?_)); apply Exists.intro; refine ⟨?_, ?_⟩; · (intro a w' hR; go_simp; rfl)) | ((first | (refine wpM_val0 Ext.refl rfl ?_) | (refine wpM_val1 Ext.refl rfl rfl ?_)); apply Exists.intro; refine ⟨?_, ?_⟩; · (intro a w' hR; intro h1; (first | (have e1 : _ = _ := h1) | skip); intro h2; (first | (have e2 : _ = _ := h2) | skip); intro h3; (first | (have e3 : _ = _ := h3) | skip); go_simp; rfl)) | (refine wpM_skip1 rfl ?_) | (refine wpM_skipU rfl ?_))
              first | (refine wpM_val0 Ext.refl rfl ?_) | (refine wpM_val1 Ext.refl rfl rfl ?_)
              apply Exists.intro; refine ⟨?_, ?_⟩
              · intro a w' hR h1
                have e1 : _ = _ := h1
                have hl0 := hR.cell c2
                have hl1 := hR.cell c3
                go_simp
                rfl
              repeat (first | ((first | (refine wpM_move00 Ext.refl rfl rfl rfl ?_) | (refine wpM_move01 Ext.refl rfl rfl rfl rfl ?_)); apply Exists.intro; refine ⟨?_, ?_⟩; · (go_simp; rfl)) | (first | (refine wpM_movek0 Ext.refl rfl rfl rfl ?_) | (refine wpM_movek1 Ext.refl rfl rfl rfl rfl ?_)) | ((first | (refine wpM_val0 Ext.refl rfl ?_) | (refine wpM_val1 Ext.refl rfl rfl ?_)); apply Exists.intro; refine ⟨?_, ?_⟩; · (intro a w' hR; intro h1; (first | (have e1 : _ = _ := h1) | skip); intro h2; (first | (have e2 : _ = _ := h2) | skip); go_simp; rfl)) | ((first | (refine wpM_val0 Ext.refl rfl ?_) | (refine wpM_val1 Ext.refl rfl rfl ?_)); apply Exists.intro; refine ⟨?_, ?_⟩; · (intro a w' hR; intro h1; (first | (have e1 : _ = _ := h1) | skip); go_simp; rfl)) | ((first | (refine wpM_val0 Ext.refl rfl ?_) | (refine wpM_val1 Ext.refl rfl rfl ?_)); apply Exists.intro; refine ⟨?_, ?_⟩; · (intro a w' hR; go_simp; rfl)) | ((first | (refine wpM_val0 Ext.refl rfl ?_) | (refine wpM_val1 Ext.refl rfl rfl ?_)); apply Exists.intro; refine ⟨?_, ?_⟩; · (intro a w' hR; intro h1; (first | (have e1 : _ = _ := h1) | skip); intro h2; (first | (have e2 : _ = _ := h2) | skip); intro h3; (first | (have e3 : _ = _ := h3) | skip); go_simp; rfl)) | (refine wpM_skip1 rfl ?_) | (refine wpM_skipU rfl ?_))
              first | (refine wpM_val0 Ext.refl rfl ?_) | (refine wpM_val1 Ext.refl rfl rfl ?_)
              apply Exists.intro; refine ⟨?_, ?_⟩
              · intro a w' hR h1
                have e1 : _ = _ := h1
                have hl0 := hR.cell d0
                have hl1 := hR.cell d1
                go_simp
                rfl
              repeat (first | ((first | (refine wpM_move00 Ext.refl rfl rfl rfl ?_) | (refine wpM_move01 Ext.refl rfl rfl rfl rfl ?_)); apply Exists.intro; refine ⟨?_, ?_⟩; · (go_simp; rfl)) | (first | (refine wpM_movek0 Ext.refl rfl rfl rfl ?_) | (refine wpM_movek1 Ext.refl rfl rfl rfl rfl ?_)) | ((first | (refine wpM_val0 Ext.refl rfl ?_) | (refine wpM_val1 Ext.refl rfl rfl ?_)); apply Exists.intro; refine ⟨?_, ?_⟩; · (intro a w' hR; intro h1; (first | (have e1 : _ = _ := h1) | skip); intro h2; (first | (have e2 : _ = _ := h2) | skip); go_simp; rfl)) | ((first | (refine wpM_val0 Ext.refl rfl ?_) | (refine wpM_val1 Ext.refl rfl rfl ?_)); apply Exists.intro; refine ⟨?_, ?_⟩; · (intro a w' hR; intro h1; (first | (have e1 : _ = _ := h1) | skip); go_simp; rfl)) | ((first | (refine wpM_val0 Ext.refl rfl ?_) | (refine wpM_val1 Ext.refl rfl rfl ?_)); apply Exists.intro; refine ⟨?_, ?_⟩; · (intro a w' hR; go_simp; rfl)) | ((first | (refine wpM_val0 Ext.refl rfl ?_) | (refine wpM_val1 Ext.refl rfl rfl ?_)); apply Exists.intro; refine ⟨?_, ?_⟩; · (intro a w' hR; intro h1; (first | (have e1 : _ = _ := h1) | skip); intro h2; (first | (have e2 : _ = _ := h2) | skip); intro h3; (first | (have e3 : _ = _ := h3) | skip); go_simp; rfl)) | (refine wpM_skip1 rfl ?_) | (refine wpM_skipU rfl ?_))
              first | (refine wpM_val0 Ext.refl rfl ?_) | (refine wpM_val1 Ext.refl rfl rfl ?_)
              apply Exists.intro; refine ⟨?_, ?_⟩
              · intro a w' hR h1
                have e1 : _ = _ := h1
                have hl0 := hR.cell c2
                have hl1 := hR.cell c3
                go_simp
                rfl
              repeat (first | ((first | (refine wpM_move00 Ext.refl rfl rfl rfl ?_) | (refine wpM_move01 Ext.refl rfl rfl rfl rfl ?_)); apply Exists.intro; refine ⟨?_, ?_⟩; · (go_simp; rfl)) | (first | (refine wpM_movek0 Ext.refl rfl rfl rfl ?_) | (refine wpM_movek1 Ext.refl rfl rfl rfl rfl ?_)) | ((first | (refine wpM_val0 Ext.refl rfl ?_) | (refine wpM_val1 Ext.refl rfl rfl ?_)); apply Exists.intro; refine ⟨?_, ?_⟩; · (intro a w' hR; intro h1; (first | (have e1 : _ = _ := h1) | skip); intro h2; (first | (have e2 : _ = _ := h2) | skip); go_simp; rfl)) | ((first | (refine wpM_val0 Ext.refl rfl ?_) | (refine wpM_val1 Ext.refl rfl rfl ?_)); apply Exists.intro; refine ⟨?_, ?_⟩; · (intro a w' hR; intro h1; (first | (have e1 : _ = _ := h1) | skip); go_simp; rfl)) | ((first | (refine wpM_val0 Ext.refl rfl ?_) | (refine wpM_val1 Ext.refl rfl rfl ?_)); apply Exists.intro; refine ⟨?_, ?_⟩; · (intro a w' hR; go_simp; rfl)) | ((first | (refine wpM_val0 Ext.refl rfl ?_) | (refine wpM_val1 Ext.refl rfl rfl ?_)); apply Exists.intro; refine ⟨?_, ?_⟩; · (intro a w' hR; intro h1; (first | (have e1 : _ = _ := h1) | skip); intro h2; (first | (have e2 : _ = _ := h2) | skip); intro h3; (first | (have e3 : _ = _ := h3) | skip); go_simp; rfl)) | (refine wpM_skip1 rfl ?_) | (refine wpM_skipU rfl ?_))
              first | (refine wpM_val0 Ext.refl rfl ?_) | (refine wpM_val1 Ext.refl rfl rfl ?_)
              apply Exists.intro; refine ⟨?_, ?_⟩
              · intro a w' hR h1
                have e1 : _ = _ := h1
                have hl0 := hR.cell d0
                have hl1 := hR.cell d1
                go_simp
                rfl
              first | (refine wpM_call0 (fun v _ => v = .bool true) rfl (by first | exact mono_eq | exact (fun _ _ _ ⟨n, h1, h2, h3⟩ k => ⟨n, h1, h2, h3.ext k⟩) | exact (fun _ _ _ h k => RB.ext h k) | exact (fun _ _ _ h k => OB.ext h k) | exact (fun _ _ _ h k => Rd.ext h k) | exact (fun _ _ _ h k => ownsRow_ext h k) | exact (fun _ _ _ h k => RB.extC h k) | exact (fun _ _ _ h k => FB.extC h k) | exact (fun _ _ _ h k => Rd.extC h k) | exact (fun _ _ _ h k => RP.ext h k) | exact (fun _ _ _ h k => RE.ext h k)) ?_ ?_) | (refine wpM_call1 (fun v _ => v = .bool true) rfl rfl (by first | exact mono_eq | exact (fun _ _ _ ⟨n, h1, h2, h3⟩ k => ⟨n, h1, h2, h3.ext k⟩) | exact (fun _ _ _ h k => RB.ext h k) | exact (fun _ _ _ h k => OB.ext h k) | exact (fun _ _ _ h k => Rd.ext h k) | exact (fun _ _ _ h k => ownsRow_ext h k) | exact (fun _ _ _ h k => RB.extC h k) | exact (fun _ _ _ h k => FB.extC h k) | exact (fun _ _ _ h k => Rd.extC h k) | exact (fun _ _ _ h k => RP.ext h k) | exact (fun _ _ _ h k => RE.ext h k)) ?_ ?_)
              · intro a w' hR h1 h2 K hK
                have e1 : _ = _ := h1
                have e2 : _ = _ := h2
                go_simp
                refine (HAH.out w').mono ?_
                rintro e w2 ⟨rfl, he⟩
                exact hK _ _ he rfl
              repeat (first | ((first | (refine wpM_move00 Ext.refl rfl rfl rfl ?_) | (refine wpM_move01 Ext.refl rfl rfl rfl rfl ?_)); apply Exists.intro; refine ⟨?_, ?_⟩; · (go_simp; rfl)) | (first | (refine wpM_movek0 Ext.refl rfl rfl rfl ?_) | (refine wpM_movek1 Ext.refl rfl rfl rfl rfl ?_)) | ((first | (refine wpM_val0 Ext.refl rfl ?_) | (refine wpM_val1 Ext.refl rfl rfl ?_)); apply Exists.intro; refine ⟨?_, ?_⟩; · (intro a w' hR; intro h1; (first | (have e1 : _ = _ := h1) | skip); intro h2; (first | (have e2 : _ = _ := h2) | skip); go_simp; rfl)) | ((first | (refine wpM_val0 Ext.refl rfl ?_) | (refine wpM_val1 Ext.refl rfl rfl ?_)); apply Exists.intro; refine ⟨?_, ?_⟩; · (intro a w' hR; intro h1; (first | (have e1 : _ = _ := h1) | skip); go_simp; rfl)) | ((first | (refine wpM_val0 Ext.refl rfl ?_) | (refine wpM_val1 Ext.refl rfl rfl ?_)); apply Exists.intro; refine ⟨?_, ?_⟩; · (intro a w' hR; go_simp; rfl)) | ((first | (refine wpM_val0 Ext.refl rfl ?_) | (refine wpM_val1 Ext.refl rfl rfl ?_)); apply Exists.intro; refine ⟨?_, ?_⟩; · (intro a w' hR; intro h1; (first | (have e1 : _ = _ := h1) | skip); intro h2; (first | (have e2 : _ = _ := h2) | skip); intro h3; (first | (have e3 : _ = _ := h3) | skip); go_simp; rfl)) | (refine wpM_skip1 rfl ?_) | (refine wpM_skipU rfl ?_))
              refine wpM_done ?_
              intro w5 hx5
              iterate 20 (rintro _ rfl)
              dsimp only [FinV]
              go_simp
              have HX5 := Lib.hid (HX2.out.trans hx5)
              clear hx5
              go_wp2
              exact ⟨⟨j + 1, by omega, by go_num, by rw [HN.out], HX5.out⟩, by simp [intOf]; omega⟩
            | false =>
              have HN := Lib.hid (show leastB (l.take (j + 1)) (m1, m2) = leastB (l.take j) (m1, m2) by rw [HLS.out, hdf, hq]; simp)
              rw [hq] at HAH
              clear hxy HLS hq hdf
              generalize leastB (l.take j) (m1, m2) = bj at *
              go_wp2
              refine wp_region_ext (by kernel_rfl) (by rfl) (by rfl) (by kernel_rfl) ?_
              repeat (first | ((first | (refine wpM_move00 Ext.refl rfl rfl rfl ?_) | (refine wpM_move01 Ext.refl rfl rfl rfl rfl ?_)); apply Exists.intro; refine ⟨?_, ?_⟩; · (go_simp; rfl)) | (first | (refine wpM_movek0 Ext.refl rfl rfl rfl ?_) | (refine wpM_movek1 Ext.refl rfl rfl rfl rfl ?_)) | ((first | (refine wpM_val0 Ext.refl rfl ?_) | (refine wpM_val1 Ext.refl rfl rfl ?_)); apply Exists.intro; refine ⟨?_, ?_⟩; · (intro a w' hR; intro h1; (first | (have e1 : _ = _ := h1) | skip); intro h2; (first | (have e2 : _ = _ := h2) | skip); go_simp; rfl)) | ((first | (refine wpM_val0 Ext.refl rfl ?_) | (refine wpM_val1 Ext.refl rfl rfl ?_)); apply Exists.intro; refine ⟨?_, ?_⟩; · (intro a w' hR; intro h1; (first | (have e1 : _ = _ := h1) | skip); go_simp; rfl)) | ((first | (refine wpM_val0 Ext.refl rfl ?_) | (refine wpM_val1 Ext.refl rfl rfl ?_)); apply Exists.intro; refine ⟨?_, ?_⟩; · (intro a w' hR; go_simp; rfl)) | ((first | (refine wpM_val0 Ext.refl rfl ?_) | (refine wpM_val1 Ext.refl rfl rfl ?_)); apply Exists.intro; refine ⟨?_, ?_⟩; · (intro a w' hR; intro h1; (first | (have e1 : _ = _ := h1) | skip); intro h2; (first | (have e2 : _ = _ := h2) | skip); intro h3; (first | (have e3 : _ = _ := h3) | skip); go_simp; rfl)) | (refine wpM_skip1 rfl ?_) | (refine wpM_skipU rfl ?_))
              first | (refine wpM_val0 Ext.refl rfl ?_) | (refine wpM_val1 Ext.refl rfl rfl ?_)
              apply Exists.intro; refine ⟨?_, ?_⟩
              · intro a w' hR h1
                have e1 : _ = _ := h1
                have hl0 := hR.cell c2
                have hl1 := hR.cell c3
                go_simp
                rfl
              repeat (first | ((first | (refine wpM_move00 Ext.refl rfl rfl rfl ?_) | (refine wpM_move01 Ext.refl rfl rfl rfl rfl ?_)); apply Exists.intro; refine ⟨?_, ?_⟩; · (go_simp; rfl)) | (first | (refine wpM_movek0 Ext.refl rfl rfl rfl ?_) | (refine wpM_movek1 Ext.refl rfl rfl rfl rfl ?_)) | ((first | (refine wpM_val0 Ext.refl rfl ?_) | (refine wpM_val1 Ext.refl rfl rfl ?_)); apply Exists.intro; refine ⟨?_, ?_⟩; · (intro a w' hR; intro h1; (first | (have e1 : _ = _ := h1) | skip); intro h2; (first | (have e2 : _ = _ := h2) | skip); go_simp; rfl)) | ((first | (refine wpM_val0 Ext.refl rfl ?_) | (refine wpM_val1 Ext.refl rfl rfl ?_)); apply Exists.intro; refine ⟨?_, ?_⟩; · (intro a w' hR; intro h1; (first | (have e1 : _ = _ := h1) | skip); go_simp; rfl)) | ((first | (refine wpM_val0 Ext.refl rfl ?_) | (refine wpM_val1 Ext.refl rfl rfl ?_)); apply Exists.intro; refine ⟨?_, ?_⟩; · (intro a w' hR; go_simp; rfl)) | ((first | (refine wpM_val0 Ext.refl rfl ?_) | (refine wpM_val1 Ext.refl rfl rfl ?_)); apply Exists.intro; refine ⟨?_, ?_⟩; · (intro a w' hR; intro h1; (first | (have e1 : _ = _ := h1) | skip); intro h2; (first | (have e2 : _ = _ := h2) | skip); intro h3; (first | (have e3 : _ = _ := h3) | skip); go_simp; rfl)) | (refine wpM_skip1 rfl ?_) | (refine wpM_skipU rfl ?_))
              first | (refine wpM_val0 Ext.refl rfl ?_) | (refine wpM_val1 Ext.refl rfl rfl ?_)
              apply Exists.intro; refine ⟨?_, ?_⟩
              · intro a w' hR h1
                have e1 : _ = _ := h1
                have hl0 := hR.cell d0
                have hl1 := hR.cell d1
                go_simp
                rfl
              repeat (first | ((first | (refine wpM_move00 Ext.refl rfl rfl rfl ?_) | (refine wpM_move01 Ext.refl rfl rfl rfl rfl ?_)); apply Exists.intro; refine ⟨?_, ?_⟩; · (go_simp; rfl)) | (first | (refine wpM_movek0 Ext.refl rfl rfl rfl ?_) | (refine wpM_movek1 Ext.refl rfl rfl rfl rfl ?_)) | ((first | (refine wpM_val0 Ext.refl rfl ?_) | (refine wpM_val1 Ext.refl rfl rfl ?_)); apply Exists.intro; refine ⟨?_, ?_⟩; · (intro a w' hR; intro h1; (first | (have e1 : _ = _ := h1) | skip); intro h2; (first | (have e2 : _ = _ := h2) | skip); go_simp; rfl)) | ((first | (refine wpM_val0 Ext.refl rfl ?_) | (refine wpM_val1 Ext.refl rfl rfl ?_)); apply Exists.intro; refine ⟨?_, ?_⟩; · (intro a w' hR; intro h1; (first | (have e1 : _ = _ := h1) | skip); go_simp; rfl)) | ((first | (refine wpM_val0 Ext.refl rfl ?_) | (refine wpM_val1 Ext.refl rfl rfl ?_)); apply Exists.intro; refine ⟨?_, ?_⟩; · (intro a w' hR; go_simp; rfl)) | ((first | (refine wpM_val0 Ext.refl rfl ?_) | (refine wpM_val1 Ext.refl rfl rfl ?_)); apply Exists.intro; refine ⟨?_, ?_⟩; · (intro a w' hR; intro h1; (first | (have e1 : _ = _ := h1) | skip); intro h2; (first | (have e2 : _ = _ := h2) | skip); intro h3; (first | (have e3 : _ = _ := h3) | skip); go_simp; rfl)) | (refine wpM_skip1 rfl ?_) | (refine wpM_skipU rfl ?_))
              first | (refine wpM_val0 Ext.refl rfl ?_) | (refine wpM_val1 Ext.refl rfl rfl ?_)
              apply Exists.intro; refine ⟨?_, ?_⟩
              · intro a w' hR h1
                have e1 : _ = _ := h1
                have hl0 := hR.cell c2
                have hl1 := hR.cell c3
                go_simp
                rfl
              repeat (first | ((first | (refine wpM_move00 Ext.refl rfl rfl rfl ?_) | (refine wpM_move01 Ext.refl rfl rfl rfl rfl ?_)); apply Exists.intro; refine ⟨?_, ?_⟩; · (go_simp; rfl)) | (first | (refine wpM_movek0 Ext.refl rfl rfl rfl ?_) | (refine wpM_movek1 Ext.refl rfl rfl rfl rfl ?_)) | ((first | (refine wpM_val0 Ext.refl rfl ?_) | (refine wpM_val1 Ext.refl rfl rfl ?_)); apply Exists.intro; refine ⟨?_, ?_⟩; · (intro a w' hR; intro h1; (first | (have e1 : _ = _ := h1) | skip); intro h2; (first | (have e2 : _ = _ := h2) | skip); go_simp; rfl)) | ((first | (refine wpM_val0 Ext.refl rfl ?_) | (refine wpM_val1 Ext.refl rfl rfl ?_)); apply Exists.intro; refine ⟨?_, ?_⟩; · (intro a w' hR; intro h1; (first | (have e1 : _ = _ := h1) | skip); go_simp; rfl)) | ((first | (refine wpM_val0 Ext.refl rfl ?_) | (refine wpM_val1 Ext.refl rfl rfl ?_)); apply Exists.intro; refine ⟨?_, ?_⟩; · (intro a w' hR; go_simp; rfl)) | ((first | (refine wpM_val0 Ext.refl rfl ?_) | (refine wpM_val1 Ext.refl rfl rfl ?_)); apply Exists.intro; refine ⟨?_, ?_⟩; · (intro a w' hR; intro h1; (first | (have e1 : _ = _ := h1) | skip); intro h2; (first | (have e2 : _ = _ := h2) | skip); intro h3; (first | (have e3 : _ = _ := h3) | skip); go_simp; rfl)) | (refine wpM_skip1 rfl ?_) | (refine wpM_skipU rfl ?_))
              first | (refine wpM_val0 Ext.refl rfl ?_) | (refine wpM_val1 Ext.refl rfl rfl ?_)
              apply Exists.intro; refine ⟨?_, ?_⟩
              · intro a w' hR h1
                have e1 : _ = _ := h1
                have hl0 := hR.cell d0
                have hl1 := hR.cell d1
                go_simp
                rfl
              first | (refine wpM_call0 (fun v _ => v = .bool false) rfl (by first | exact mono_eq | exact (fun _ _ _ ⟨n, h1, h2, h3⟩ k => ⟨n, h1, h2, h3.ext k⟩) | exact (fun _ _ _ h k => RB.ext h k) | exact (fun _ _ _ h k => OB.ext h k) | exact (fun _ _ _ h k => Rd.ext h k) | exact (fun _ _ _ h k => ownsRow_ext h k) | exact (fun _ _ _ h k => RB.extC h k) | exact (fun _ _ _ h k => FB.extC h k) | exact (fun _ _ _ h k => Rd.extC h k) | exact (fun _ _ _ h k => RP.ext h k) | exact (fun _ _ _ h k => RE.ext h k)) ?_ ?_) | (refine wpM_call1 (fun v _ => v = .bool false) rfl rfl (by first | exact mono_eq | exact (fun _ _ _ ⟨n, h1, h2, h3⟩ k => ⟨n, h1, h2, h3.ext k⟩) | exact (fun _ _ _ h k => RB.ext h k) | exact (fun _ _ _ h k => OB.ext h k) | exact (fun _ _ _ h k => Rd.ext h k) | exact (fun _ _ _ h k => ownsRow_ext h k) | exact (fun _ _ _ h k => RB.extC h k) | exact (fun _ _ _ h k => FB.extC h k) | exact (fun _ _ _ h k => Rd.extC h k) | exact (fun _ _ _ h k => RP.ext h k) | exact (fun _ _ _ h k => RE.ext h k)) ?_ ?_)
              · intro a w' hR h1 h2 K hK
                have e1 : _ = _ := h1
                have e2 : _ = _ := h2
                go_simp
                refine (HAH.out w').mono ?_
                rintro e w2 ⟨rfl, he⟩
                exact hK _ _ he rfl
              repeat (first | ((first | (refine wpM_move00 Ext.refl rfl rfl rfl ?_) | (refine wpM_move01 Ext.refl rfl rfl rfl rfl ?_)); apply Exists.intro; refine ⟨?_, ?_⟩; · (go_simp; rfl)) | (first | (refine wpM_movek0 Ext.refl rfl rfl rfl ?_) | (refine wpM_movek1 Ext.refl rfl rfl rfl rfl ?_)) | ((first | (refine wpM_val0 Ext.refl rfl ?_) | (refine wpM_val1 Ext.refl rfl rfl ?_)); apply Exists.intro; refine ⟨?_, ?_⟩; · (intro a w' hR; intro h1; (first | (have e1 : _ = _ := h1) | skip); intro h2; (first | (have e2 : _ = _ := h2) | skip); go_simp; rfl)) | ((first | (refine wpM_val0 Ext.refl rfl ?_) | (refine wpM_val1 Ext.refl rfl rfl ?_)); apply Exists.intro; refine ⟨?_, ?_⟩; · (intro a w' hR; intro h1; (first | (have e1 : _ = _ := h1) | skip); go_simp; rfl)) | ((first | (refine wpM_val0 Ext.refl rfl ?_) | (refine wpM_val1 Ext.refl rfl rfl ?_)); apply Exists.intro; refine ⟨?_, ?_⟩; · (intro a w' hR; go_simp; rfl)) | ((first | (refine wpM_val0 Ext.refl rfl ?_) | (refine wpM_val1 Ext.refl rfl rfl ?_)); apply Exists.intro; refine ⟨?_, ?_⟩; · (intro a w' hR; intro h1; (first | (have e1 : _ = _ := h1) | skip); intro h2; (first | (have e2 : _ = _ := h2) | skip); intro h3; (first | (have e3 : _ = _ := h3) | skip); go_simp; rfl)) | (refine wpM_skip1 rfl ?_) | (refine wpM_skipU rfl ?_))
              refine wpM_done ?_
              intro w5 hx5
              iterate 20 (rintro _ rfl)
              dsimp only [FinV]
              go_simp
              have HX5 := Lib.hid (HX2.out.trans hx5)
              clear hx5
              go_wp2
              exact ⟨⟨j + 1, by omega, by go_num, by rw [HN.out], HX5.out⟩, by simp [intOf]; omega⟩
        · obtain rfl : j = l.length := by omega
          rw [List.take_length]
          have q1 : ¬ (l.length : Int) < (l.length : Int) := by omega
          have hlb0 : leastB l (m1, m2) = Mom.least l (m1, m2) := rfl
          rw [hlb0]
          clear hlb0
          go_wp2
          go_loopw [7] (fun av wr3 => ∃ j : Nat, j ≤ F.length ∧ av = .int .i64 j ∧ (∀ x ∈ F.take j, Mom.cmp x (m1, m2) < 0) ∧ Ext wA wr3) (fun av _ => F.length - (intOf av).toNat)
          case atStart => exact ⟨0, Nat.zero_le _, rfl, by simp, HX2.out⟩
          case round =>
            obtain ⟨j, hj, rfl, ha3, hext3⟩ := hrel
            have HA3 := Lib.hid ha3
            have HX3 := Lib.hid hext3
            clear ha3 hext3
            by_cases hjF : j < F.length
            · have q1 : (j : Int) < (F.length : Int) := by omega
              have q0 : 0 ≤ (j : Int) := by omega
              obtain ⟨bF, oF, rfl, y0, y1⟩ := HO.out.rp.at_ hjF
              have y0 := HX3.out.cell y0
              have y1 := HX3.out.cell y1
              have d0 := HX3.out.cell c0
              have d1 := HX3.out.cell c1
              have HLT := Lib.hid (lt_take_s hjF HA3.out)
              have HCM := Lib.hid (fun w => rcompare_any F[j] (m1, m2) w)
              generalize hFx : F[j] = x at *
              obtain ⟨x1, x2⟩ := x
              dsimp only at *
              generalize hz : Mom.cmp (x1, x2) (m1, m2) = z at *
              by_cases hzn : z < 0
              · have HN := Lib.hid (HLT.out hzn)
                clear hz hFx
                go_wp2
                refine wp_region_ext (by kernel_rfl) (by rfl) (by rfl) (by kernel_rfl) ?_
                repeat (first | ((first | (refine wpM_move00 Ext.refl rfl rfl rfl ?_) | (refine wpM_move01 Ext.refl rfl rfl rfl rfl ?_)); apply Exists.intro; refine ⟨?_, ?_⟩; · (go_simp; rfl)) | (first | (refine wpM_movek0 Ext.refl rfl rfl rfl ?_) | (refine wpM_movek1 Ext.refl rfl rfl rfl rfl ?_)) | ((first | (refine wpM_val0 Ext.refl rfl ?_) | (refine wpM_val1 Ext.refl rfl rfl ?_)); apply Exists.intro; refine ⟨?_, ?_⟩; · (intro a w' hR; intro h1; (first | (have e1 : _ = _ := h1) | skip); intro h2; (first | (have e2 : _ = _ := h2) | skip); go_simp; rfl)) | ((first | (refine wpM_val0 Ext.refl rfl ?_) | (refine wpM_val1 Ext.refl rfl rfl ?_)); apply Exists.intro; refine ⟨?_, ?_⟩; · (intro a w' hR; intro h1; (first | (have e1 : _ = _ := h1) | skip); go_simp; rfl)) | ((first | (refine wpM_val0 Ext.refl rfl ?_) | (refine wpM_val1 Ext.refl rfl rfl ?_)); apply Exists.intro; refine ⟨?_, ?_⟩; · (intro a w' hR; go_simp; rfl)) | ((first | (refine wpM_val0 Ext.refl rfl ?_) | (refine wpM_val1 Ext.refl rfl rfl ?_)); apply Exists.intro; refine ⟨?_, ?_⟩; · (intro a w' hR; intro h1; (first | (have e1 : _ = _ := h1) | skip); intro h2; (first | (have e2 : _ = _ := h2) | skip); intro h3; (first | (have e3 : _ = _ := h3) | skip); go_simp; rfl)) | (refine wpM_skip1 rfl ?_) | (refine wpM_skipU rfl ?_))
                first | (refine wpM_val0 Ext.refl rfl ?_) | (refine wpM_val1 Ext.refl rfl rfl ?_)
                apply Exists.intro; refine ⟨?_, ?_⟩
                · intro a w' hR h1
                  have e1 : _ = _ := h1
                  have hl0 := hR.cell y0
                  have hl1 := hR.cell y1
                  go_simp
                  rfl
                repeat (first | ((first | (refine wpM_move00 Ext.refl rfl rfl rfl ?_) | (refine wpM_move01 Ext.refl rfl rfl rfl rfl ?_)); apply Exists.intro; refine ⟨?_, ?_⟩; · (go_simp; rfl)) | (first | (refine wpM_movek0 Ext.refl rfl rfl rfl ?_) | (refine wpM_movek1 Ext.refl rfl rfl rfl rfl ?_)) | ((first | (refine wpM_val0 Ext.refl rfl ?_) | (refine wpM_val1 Ext.refl rfl rfl ?_)); apply Exists.intro; refine ⟨?_, ?_⟩; · (intro a w' hR; intro h1; (first | (have e1 : _ = _ := h1) | skip); intro h2; (first | (have e2 : _ = _ := h2) | skip); go_simp; rfl)) | ((first | (refine wpM_val0 Ext.refl rfl ?_) | (refine wpM_val1 Ext.refl rfl rfl ?_)); apply Exists.intro; refine ⟨?_, ?_⟩; · (intro a w' hR; intro h1; (first | (have e1 : _ = _ := h1) | skip); go_simp; rfl)) | ((first | (refine wpM_val0 Ext.refl rfl ?_) | (refine wpM_val1 Ext.refl rfl rfl ?_)); apply Exists.intro; refine ⟨?_, ?_⟩; · (intro a w' hR; go_simp; rfl)) | ((first | (refine wpM_val0 Ext.refl rfl ?_) | (refine wpM_val1 Ext.refl rfl rfl ?_)); apply Exists.intro; refine ⟨?_, ?_⟩; · (intro a w' hR; intro h1; (first | (have e1 : _ = _ := h1) | skip); intro h2; (first | (have e2 : _ = _ := h2) | skip); intro h3; (first | (have e3 : _ = _ := h3) | skip); go_simp; rfl)) | (refine wpM_skip1 rfl ?_) | (refine wpM_skipU rfl ?_))
                first | (refine wpM_val0 Ext.refl rfl ?_) | (refine wpM_val1 Ext.refl rfl rfl ?_)
                apply Exists.intro; refine ⟨?_, ?_⟩
                · intro a w' hR h1
                  have e1 : _ = _ := h1
                  have hl0 := hR.cell d0
                  have hl1 := hR.cell d1
                  go_simp
                  rfl
                first | (refine wpM_call0 (fun v _ => v = .int .i64 z) rfl (by first | exact mono_eq | exact (fun _ _ _ ⟨n, h1, h2, h3⟩ k => ⟨n, h1, h2, h3.ext k⟩) | exact (fun _ _ _ h k => RB.ext h k) | exact (fun _ _ _ h k => OB.ext h k) | exact (fun _ _ _ h k => Rd.ext h k) | exact (fun _ _ _ h k => ownsRow_ext h k) | exact (fun _ _ _ h k => RB.extC h k) | exact (fun _ _ _ h k => FB.extC h k) | exact (fun _ _ _ h k => Rd.extC h k) | exact (fun _ _ _ h k => RP.ext h k) | exact (fun _ _ _ h k => RE.ext h k)) ?_ ?_) | (refine wpM_call1 (fun v _ => v = .int .i64 z) rfl rfl (by first | exact mono_eq | exact (fun _ _ _ ⟨n, h1, h2, h3⟩ k => ⟨n, h1, h2, h3.ext k⟩) | exact (fun _ _ _ h k => RB.ext h k) | exact (fun _ _ _ h k => OB.ext h k) | exact (fun _ _ _ h k => Rd.ext h k) | exact (fun _ _ _ h k => ownsRow_ext h k) | exact (fun _ _ _ h k => RB.extC h k) | exact (fun _ _ _ h k => FB.extC h k) | exact (fun _ _ _ h k => Rd.extC h k) | exact (fun _ _ _ h k => RP.ext h k) | exact (fun _ _ _ h k => RE.ext h k)) ?_ ?_)
                · intro a w' hR h1 h2 K hK
                  have e1 : _ = _ := h1
                  have e2 : _ = _ := h2
                  go_simp
                  refine (HCM.out w').mono ?_
                  rintro e w2 ⟨rfl, he⟩
                  exact hK _ _ he rfl
                repeat (first | ((first | (refine wpM_move00 Ext.refl rfl rfl rfl ?_) | (refine wpM_move01 Ext.refl rfl rfl rfl rfl ?_)); apply Exists.intro; refine ⟨?_, ?_⟩; · (go_simp; rfl)) | (first | (refine wpM_movek0 Ext.refl rfl rfl rfl ?_) | (refine wpM_movek1 Ext.refl rfl rfl rfl rfl ?_)) | ((first | (refine wpM_val0 Ext.refl rfl ?_) | (refine wpM_val1 Ext.refl rfl rfl ?_)); apply Exists.intro; refine ⟨?_, ?_⟩; · (intro a w' hR; intro h1; (first | (have e1 : _ = _ := h1) | skip); intro h2; (first | (have e2 : _ = _ := h2) | skip); go_simp; rfl)) | ((first | (refine wpM_val0 Ext.refl rfl ?_) | (refine wpM_val1 Ext.refl rfl rfl ?_)); apply Exists.intro; refine ⟨?_, ?_⟩; · (intro a w' hR; intro h1; (first | (have e1 : _ = _ := h1) | skip); go_simp; rfl)) | ((first | (refine wpM_val0 Ext.refl rfl ?_) | (refine wpM_val1 Ext.refl rfl rfl ?_)); apply Exists.intro; refine ⟨?_, ?_⟩; · (intro a w' hR; go_simp; rfl)) | ((first | (refine wpM_val0 Ext.refl rfl ?_) | (refine wpM_val1 Ext.refl rfl rfl ?_)); apply Exists.intro; refine ⟨?_, ?_⟩; · (intro a w' hR; intro h1; (first | (have e1 : _ = _ := h1) | skip); intro h2; (first | (have e2 : _ = _ := h2) | skip); intro h3; (first | (have e3 : _ = _ := h3) | skip); go_simp; rfl)) | (refine wpM_skip1 rfl ?_) | (refine wpM_skipU rfl ?_))
                refine wpM_done ?_
                intro w4 hx4
                iterate 16 (rintro _ rfl)
                dsimp only [FinV]
                go_simp
                have HX4 := Lib.hid (HX3.out.trans hx4)
                clear hx4
                go_wp2
                exact ⟨⟨j + 1, by omega, by go_num, HN.out, HX4.out⟩, by simp [intOf]; omega⟩
              · have HZ := Lib.hid (show 0 ≤ Mom.cmp F[j] (m1, m2) by rw [hFx, hz]; omega)
                clear hz
                go_wp2
                refine wp_region_ext (by kernel_rfl) (by rfl) (by rfl) (by kernel_rfl) ?_
                repeat (first | ((first | (refine wpM_move00 Ext.refl rfl rfl rfl ?_) | (refine wpM_move01 Ext.refl rfl rfl rfl rfl ?_)); apply Exists.intro; refine ⟨?_, ?_⟩; · (go_simp; rfl)) | (first | (refine wpM_movek0 Ext.refl rfl rfl rfl ?_) | (refine wpM_movek1 Ext.refl rfl rfl rfl rfl ?_)) | ((first | (refine wpM_val0 Ext.refl rfl ?_) | (refine wpM_val1 Ext.refl rfl rfl ?_)); apply Exists.intro; refine ⟨?_, ?_⟩; · (intro a w' hR; intro h1; (first | (have e1 : _ = _ := h1) | skip); intro h2; (first | (have e2 : _ = _ := h2) | skip); go_simp; rfl)) | ((first | (refine wpM_val0 Ext.refl rfl ?_) | (refine wpM_val1 Ext.refl rfl rfl ?_)); apply Exists.intro; refine ⟨?_, ?_⟩; · (intro a w' hR; intro h1; (first | (have e1 : _ = _ := h1) | skip); go_simp; rfl)) | ((first | (refine wpM_val0 Ext.refl rfl ?_) | (refine wpM_val1 Ext.refl rfl rfl ?_)); apply Exists.intro; refine ⟨?_, ?_⟩; · (intro a w' hR; go_simp; rfl)) | ((first | (refine wpM_val0 Ext.refl rfl ?_) | (refine wpM_val1 Ext.refl rfl rfl ?_)); apply Exists.intro; refine ⟨?_, ?_⟩; · (intro a w' hR; intro h1; (first | (have e1 : _ = _ := h1) | skip); intro h2; (first | (have e2 : _ = _ := h2) | skip); intro h3; (first | (have e3 : _ = _ := h3) | skip); go_simp; rfl)) | (refine wpM_skip1 rfl ?_) | (refine wpM_skipU rfl ?_))
                first | (refine wpM_val0 Ext.refl rfl ?_) | (refine wpM_val1 Ext.refl rfl rfl ?_)
                apply Exists.intro; refine ⟨?_, ?_⟩
                · intro a w' hR h1
                  have e1 : _ = _ := h1
                  have hl0 := hR.cell y0
                  have hl1 := hR.cell y1
                  go_simp
                  rfl
                repeat (first | ((first | (refine wpM_move00 Ext.refl rfl rfl rfl ?_) | (refine wpM_move01 Ext.refl rfl rfl rfl rfl ?_)); apply Exists.intro; refine ⟨?_, ?_⟩; · (go_simp; rfl)) | (first | (refine wpM_movek0 Ext.refl rfl rfl rfl ?_) | (refine wpM_movek1 Ext.refl rfl rfl rfl rfl ?_)) | ((first | (refine wpM_val0 Ext.refl rfl ?_) | (refine wpM_val1 Ext.refl rfl rfl ?_)); apply Exists.intro; refine ⟨?_, ?_⟩; · (intro a w' hR; intro h1; (first | (have e1 : _ = _ := h1) | skip); intro h2; (first | (have e2 : _ = _ := h2) | skip); go_simp; rfl)) | ((first | (refine wpM_val0 Ext.refl rfl ?_) | (refine wpM_val1 Ext.refl rfl rfl ?_)); apply Exists.intro; refine ⟨?_, ?_⟩; · (intro a w' hR; intro h1; (first | (have e1 : _ = _ := h1) | skip); go_simp; rfl)) | ((first | (refine wpM_val0 Ext.refl rfl ?_) | (refine wpM_val1 Ext.refl rfl rfl ?_)); apply Exists.intro; refine ⟨?_, ?_⟩; · (intro a w' hR; go_simp; rfl)) | ((first | (refine wpM_val0 Ext.refl rfl ?_) | (refine wpM_val1 Ext.refl rfl rfl ?_)); apply Exists.intro; refine ⟨?_, ?_⟩; · (intro a w' hR; intro h1; (first | (have e1 : _ = _ := h1) | skip); intro h2; (first | (have e2 : _ = _ := h2) | skip); intro h3; (first | (have e3 : _ = _ := h3) | skip); go_simp; rfl)) | (refine wpM_skip1 rfl ?_) | (refine wpM_skipU rfl ?_))
                first | (refine wpM_val0 Ext.refl rfl ?_) | (refine wpM_val1 Ext.refl rfl rfl ?_)
                apply Exists.intro; refine ⟨?_, ?_⟩
                · intro a w' hR h1
                  have e1 : _ = _ := h1
                  have hl0 := hR.cell d0
                  have hl1 := hR.cell d1
                  go_simp
                  rfl
                first | (refine wpM_call0 (fun v _ => v = .int .i64 z) rfl (by first | exact mono_eq | exact (fun _ _ _ ⟨n, h1, h2, h3⟩ k => ⟨n, h1, h2, h3.ext k⟩) | exact (fun _ _ _ h k => RB.ext h k) | exact (fun _ _ _ h k => OB.ext h k) | exact (fun _ _ _ h k => Rd.ext h k) | exact (fun _ _ _ h k => ownsRow_ext h k) | exact (fun _ _ _ h k => RB.extC h k) | exact (fun _ _ _ h k => FB.extC h k) | exact (fun _ _ _ h k => Rd.extC h k) | exact (fun _ _ _ h k => RP.ext h k) | exact (fun _ _ _ h k => RE.ext h k)) ?_ ?_) | (refine wpM_call1 (fun v _ => v = .int .i64 z) rfl rfl (by first | exact mono_eq | exact (fun _ _ _ ⟨n, h1, h2, h3⟩ k => ⟨n, h1, h2, h3.ext k⟩) | exact (fun _ _ _ h k => RB.ext h k) | exact (fun _ _ _ h k => OB.ext h k) | exact (fun _ _ _ h k => Rd.ext h k) | exact (fun _ _ _ h k => ownsRow_ext h k) | exact (fun _ _ _ h k => RB.extC h k) | exact (fun _ _ _ h k => FB.extC h k) | exact (fun _ _ _ h k => Rd.extC h k) | exact (fun _ _ _ h k => RP.ext h k) | exact (fun _ _ _ h k => RE.ext h k)) ?_ ?_)
                · intro a w' hR h1 h2 K hK
                  have e1 : _ = _ := h1
                  have e2 : _ = _ := h2
                  go_simp
                  refine (HCM.out w').mono ?_
                  rintro e w2 ⟨rfl, he⟩
                  exact hK _ _ he rfl
                repeat (first | ((first | (refine wpM_move00 Ext.refl rfl rfl rfl ?_) | (refine wpM_move01 Ext.refl rfl rfl rfl rfl ?_)); apply Exists.intro; refine ⟨?_, ?_⟩; · (go_simp; rfl)) | (first | (refine wpM_movek0 Ext.refl rfl rfl rfl ?_) | (refine wpM_movek1 Ext.refl rfl rfl rfl rfl ?_)) | ((first | (refine wpM_val0 Ext.refl rfl ?_) | (refine wpM_val1 Ext.refl rfl rfl ?_)); apply Exists.intro; refine ⟨?_, ?_⟩; · (intro a w' hR; intro h1; (first | (have e1 : _ = _ := h1) | skip); intro h2; (first | (have e2 : _ = _ := h2) | skip); go_simp; rfl)) | ((first | (refine wpM_val0 Ext.refl rfl ?_) | (refine wpM_val1 Ext.refl rfl rfl ?_)); apply Exists.intro; refine ⟨?_, ?_⟩; · (intro a w' hR; intro h1; (first | (have e1 : _ = _ := h1) | skip); go_simp; rfl)) | ((first | (refine wpM_val0 Ext.refl rfl ?_) | (refine wpM_val1 Ext.refl rfl rfl ?_)); apply Exists.intro; refine ⟨?_, ?_⟩; · (intro a w' hR; go_simp; rfl)) | ((first | (refine wpM_val0 Ext.refl rfl ?_) | (refine wpM_val1 Ext.refl rfl rfl ?_)); apply Exists.intro; refine ⟨?_, ?_⟩; · (intro a w' hR; intro h1; (first | (have e1 : _ = _ := h1) | skip); intro h2; (first | (have e2 : _ = _ := h2) | skip); intro h3; (first | (have e3 : _ = _ := h3) | skip); go_simp; rfl)) | (refine wpM_skip1 rfl ?_) | (refine wpM_skipU rfl ?_))
                refine wpM_done ?_
                intro w4 hx4
                iterate 16 (rintro _ rfl)
                dsimp only [FinV]
                go_simp
                have HX3 := Lib.hid (HX3.out.trans hx4)
                have y0 := hx4.cell y0
                have y1 := hx4.cell y1
                have d0 := hx4.cell d0
                have d1 := hx4.cell d1
                clear hx4
                have g3 : (j : Int) < (F.length : Int) := by omega
                have HPL := Lib.hid (place_at F (m1, m2) j (by omega) HA3.out (fun _ => Int.not_lt.2 HZ.out))
                cases hlb : Mom.least l (m1, m2) with
                | false =>
                  have HLBf := Lib.hid hlb
                  clear hlb
                  go_wp2
                  refine wp_region_ext (by kernel_rfl) (by rfl) (by rfl) (by kernel_rfl) ?_
                  repeat (first | ((first | (refine wpM_move00 Ext.refl rfl rfl rfl ?_) | (refine wpM_move01 Ext.refl rfl rfl rfl rfl ?_)); apply Exists.intro; refine ⟨?_, ?_⟩; · (go_simp; rfl)) | (first | (refine wpM_movek0 Ext.refl rfl rfl rfl ?_) | (refine wpM_movek1 Ext.refl rfl rfl rfl rfl ?_)) | ((first | (refine wpM_val0 Ext.refl rfl ?_) | (refine wpM_val1 Ext.refl rfl rfl ?_)); apply Exists.intro; refine ⟨?_, ?_⟩; · (intro a w' hR; intro h1; (first | (have e1 : _ = _ := h1) | skip); intro h2; (first | (have e2 : _ = _ := h2) | skip); go_simp; rfl)) | ((first | (refine wpM_val0 Ext.refl rfl ?_) | (refine wpM_val1 Ext.refl rfl rfl ?_)); apply Exists.intro; refine ⟨?_, ?_⟩; · (intro a w' hR; intro h1; (first | (have e1 : _ = _ := h1) | skip); go_simp; rfl)) | ((first | (refine wpM_val0 Ext.refl rfl ?_) | (refine wpM_val1 Ext.refl rfl rfl ?_)); apply Exists.intro; refine ⟨?_, ?_⟩; · (intro a w' hR; go_simp; rfl)) | ((first | (refine wpM_val0 Ext.refl rfl ?_) | (refine wpM_val1 Ext.refl rfl rfl ?_)); apply Exists.intro; refine ⟨?_, ?_⟩; · (intro a w' hR; intro h1; (first | (have e1 : _ = _ := h1) | skip); intro h2; (first | (have e2 : _ = _ := h2) | skip); intro h3; (first | (have e3 : _ = _ := h3) | skip); go_simp; rfl)) | (refine wpM_skip1 rfl ?_) | (refine wpM_skipU rfl ?_))
                  refine wpM_done ?_
                  intro w5 hx5
                  iterate 19 (rintro _ rfl)
                  dsimp only [FinV]
                  go_simp
                  have HX5 := Lib.hid ((HX.out.trans HX3.out).trans hx5)
                  have HO5 := Lib.hid (HO.out.ext (HX3.out.trans hx5))
                  clear hx5
                  go_wp2
                  refine ⟨⟨i + 1, by omega, by go_num, ?_, HX5.out⟩, by simp [intOf]; omega⟩
                  rw [HS.out, rstep_skip l F (m1, m2) HLBf.out]
                  exact HO5.out
                | true =>
                  have HLB := Lib.hid hlb
                  clear hlb
                  have d0 := HX3.out.cell c0
                  have d1 := HX3.out.cell c1
                  by_cases hxy : (x1, x2) = (m1, m2)
                  · have hd := pairB_t hxy
                    have HT := Lib.hid (rstep_there l F (m1, m2) j HPL.out hjF (hFx.trans hxy))
                    clear hxy
                    go_wp2
                    refine wp_region_ext (by kernel_rfl) (by rfl) (by rfl) (by kernel_rfl) ?_
                    repeat (first | ((first | (refine wpM_move00 Ext.refl rfl rfl rfl ?_) | (refine wpM_move01 Ext.refl rfl rfl rfl rfl ?_)); apply Exists.intro; refine ⟨?_, ?_⟩; · (go_simp; rfl)) | (first | (refine wpM_movek0 Ext.refl rfl rfl rfl ?_) | (refine wpM_movek1 Ext.refl rfl rfl rfl rfl ?_)) | ((first | (refine wpM_val0 Ext.refl rfl ?_) | (refine wpM_val1 Ext.refl rfl rfl ?_)); apply Exists.intro; refine ⟨?_, ?_⟩; · (intro a w' hR; intro h1; (first | (have e1 : _ = _ := h1) | skip); intro h2; (first | (have e2 : _ = _ := h2) | skip); go_simp; rfl)) | ((first | (refine wpM_val0 Ext.refl rfl ?_) | (refine wpM_val1 Ext.refl rfl rfl ?_)); apply Exists.intro; refine ⟨?_, ?_⟩; · (intro a w' hR; intro h1; (first | (have e1 : _ = _ := h1) | skip); go_simp; rfl)) | ((first | (refine wpM_val0 Ext.refl rfl ?_) | (refine wpM_val1 Ext.refl rfl rfl ?_)); apply Exists.intro; refine ⟨?_, ?_⟩; · (intro a w' hR; go_simp; rfl)) | ((first | (refine wpM_val0 Ext.refl rfl ?_) | (refine wpM_val1 Ext.refl rfl rfl ?_)); apply Exists.intro; refine ⟨?_, ?_⟩; · (intro a w' hR; intro h1; (first | (have e1 : _ = _ := h1) | skip); intro h2; (first | (have e2 : _ = _ := h2) | skip); intro h3; (first | (have e3 : _ = _ := h3) | skip); go_simp; rfl)) | (refine wpM_skip1 rfl ?_) | (refine wpM_skipU rfl ?_))
                    first | (refine wpM_val0 Ext.refl rfl ?_) | (refine wpM_val1 Ext.refl rfl rfl ?_)
                    apply Exists.intro; refine ⟨?_, ?_⟩
                    · intro a w' hR h1
                      have e1 : _ = _ := h1
                      have hl0 := hR.cell y0
                      have hl1 := hR.cell y1
                      go_simp
                      rfl
                    repeat (first | ((first | (refine wpM_move00 Ext.refl rfl rfl rfl ?_) | (refine wpM_move01 Ext.refl rfl rfl rfl rfl ?_)); apply Exists.intro; refine ⟨?_, ?_⟩; · (go_simp; rfl)) | (first | (refine wpM_movek0 Ext.refl rfl rfl rfl ?_) | (refine wpM_movek1 Ext.refl rfl rfl rfl rfl ?_)) | ((first | (refine wpM_val0 Ext.refl rfl ?_) | (refine wpM_val1 Ext.refl rfl rfl ?_)); apply Exists.intro; refine ⟨?_, ?_⟩; · (intro a w' hR; intro h1; (first | (have e1 : _ = _ := h1) | skip); intro h2; (first | (have e2 : _ = _ := h2) | skip); go_simp; rfl)) | ((first | (refine wpM_val0 Ext.refl rfl ?_) | (refine wpM_val1 Ext.refl rfl rfl ?_)); apply Exists.intro; refine ⟨?_, ?_⟩; · (intro a w' hR; intro h1; (first | (have e1 : _ = _ := h1) | skip); go_simp; rfl)) | ((first | (refine wpM_val0 Ext.refl rfl ?_) | (refine wpM_val1 Ext.refl rfl rfl ?_)); apply Exists.intro; refine ⟨?_, ?_⟩; · (intro a w' hR; go_simp; rfl)) | ((first | (refine wpM_val0 Ext.refl rfl ?_) | (refine wpM_val1 Ext.refl rfl rfl ?_)); apply Exists.intro; refine ⟨?_, ?_⟩; · (intro a w' hR; intro h1; (first | (have e1 : _ = _ := h1) | skip); intro h2; (first | (have e2 : _ = _ := h2) | skip); intro h3; (first | (have e3 : _ = _ := h3) | skip); go_simp; rfl)) | (refine wpM_skip1 rfl ?_) | (refine wpM_skipU rfl ?_))
                    first | (refine wpM_val0 Ext.refl rfl ?_) | (refine wpM_val1 Ext.refl rfl rfl ?_)
                    apply Exists.intro; refine ⟨?_, ?_⟩
                    · intro a w' hR h1
                      have e1 : _ = _ := h1
                      have hl0 := hR.cell d0
                      have hl1 := hR.cell d1
                      go_simp
                      rfl
                    repeat (first | ((first | (refine wpM_move00 Ext.refl rfl rfl rfl ?_) | (refine wpM_move01 Ext.refl rfl rfl rfl rfl ?_)); apply Exists.intro; refine ⟨?_, ?_⟩; · (go_simp; rfl)) | (first | (refine wpM_movek0 Ext.refl rfl rfl rfl ?_) | (refine wpM_movek1 Ext.refl rfl rfl rfl rfl ?_)) | ((first | (refine wpM_val0 Ext.refl rfl ?_) | (refine wpM_val1 Ext.refl rfl rfl ?_)); apply Exists.intro; refine ⟨?_, ?_⟩; · (intro a w' hR; intro h1; (first | (have e1 : _ = _ := h1) | skip); intro h2; (first | (have e2 : _ = _ := h2) | skip); go_simp; rfl)) | ((first | (refine wpM_val0 Ext.refl rfl ?_) | (refine wpM_val1 Ext.refl rfl rfl ?_)); apply Exists.intro; refine ⟨?_, ?_⟩; · (intro a w' hR; intro h1; (first | (have e1 : _ = _ := h1) | skip); go_simp; rfl)) | ((first | (refine wpM_val0 Ext.refl rfl ?_) | (refine wpM_val1 Ext.refl rfl rfl ?_)); apply Exists.intro; refine ⟨?_, ?_⟩; · (intro a w' hR; go_simp; rfl)) | ((first | (refine wpM_val0 Ext.refl rfl ?_) | (refine wpM_val1 Ext.refl rfl rfl ?_)); apply Exists.intro; refine ⟨?_, ?_⟩; · (intro a w' hR; intro h1; (first | (have e1 : _ = _ := h1) | skip); intro h2; (first | (have e2 : _ = _ := h2) | skip); intro h3; (first | (have e3 : _ = _ := h3) | skip); go_simp; rfl)) | (refine wpM_skip1 rfl ?_) | (refine wpM_skipU rfl ?_))
                    refine wpM_done ?_
                    intro w5 hx5
                    iterate 19 (rintro _ rfl)
                    dsimp only [FinV]
                    go_simp
                    have HX5 := Lib.hid ((HX.out.trans HX3.out).trans hx5)
                    have HO5 := Lib.hid (HO.out.ext (HX3.out.trans hx5))
                    clear hx5
                    go_wp2
                    refine ⟨⟨i + 1, by omega, by go_num, ?_, HX5.out⟩, by simp [intOf]; omega⟩
                    rw [HS.out, HT.out]
                    exact HO5.out
                  · have hd := pairB_f hxy
                    have HNE := Lib.hid (show ∀ hj : j < F.length, F[j] ≠ (m1, m2) from fun _ => by rw [hFx]; exact hxy)
                    clear hxy
                    go_wp2
                    refine wp_region_ext (by kernel_rfl) (by rfl) (by rfl) (by kernel_rfl) ?_
                    repeat (first | ((first | (refine wpM_move00 Ext.refl rfl rfl rfl ?_) | (refine wpM_move01 Ext.refl rfl rfl rfl rfl ?_)); apply Exists.intro; refine ⟨?_, ?_⟩; · (go_simp; rfl)) | (first | (refine wpM_movek0 Ext.refl rfl rfl rfl ?_) | (refine wpM_movek1 Ext.refl rfl rfl rfl rfl ?_)) | ((first | (refine wpM_val0 Ext.refl rfl ?_) | (refine wpM_val1 Ext.refl rfl rfl ?_)); apply Exists.intro; refine ⟨?_, ?_⟩; · (intro a w' hR; intro h1; (first | (have e1 : _ = _ := h1) | skip); intro h2; (first | (have e2 : _ = _ := h2) | skip); go_simp; rfl)) | ((first | (refine wpM_val0 Ext.refl rfl ?_) | (refine wpM_val1 Ext.refl rfl rfl ?_)); apply Exists.intro; refine ⟨?_, ?_⟩; · (intro a w' hR; intro h1; (first | (have e1 : _ = _ := h1) | skip); go_simp; rfl)) | ((first | (refine wpM_val0 Ext.refl rfl ?_) | (refine wpM_val1 Ext.refl rfl rfl ?_)); apply Exists.intro; refine ⟨?_, ?_⟩; · (intro a w' hR; go_simp; rfl)) | ((first | (refine wpM_val0 Ext.refl rfl ?_) | (refine wpM_val1 Ext.refl rfl rfl ?_)); apply Exists.intro; refine ⟨?_, ?_⟩; · (intro a w' hR; intro h1; (first | (have e1 : _ = _ := h1) | skip); intro h2; (first | (have e2 : _ = _ := h2) | skip); intro h3; (first | (have e3 : _ = _ := h3) | skip); go_simp; rfl)) | (refine wpM_skip1 rfl ?_) | (refine wpM_skipU rfl ?_))
                    first | (refine wpM_val0 Ext.refl rfl ?_) | (refine wpM_val1 Ext.refl rfl rfl ?_)
                    apply Exists.intro; refine ⟨?_, ?_⟩
                    · intro a w' hR h1
                      have e1 : _ = _ := h1
                      have hl0 := hR.cell y0
                      have hl1 := hR.cell y1
                      go_simp
                      rfl
                    repeat (first | ((first | (refine wpM_move00 Ext.refl rfl rfl rfl ?_) | (refine wpM_move01 Ext.refl rfl rfl rfl rfl ?_)); apply Exists.intro; refine ⟨?_, ?_⟩; · (go_simp; rfl)) | (first | (refine wpM_movek0 Ext.refl rfl rfl rfl ?_) | (refine wpM_movek1 Ext.refl rfl rfl rfl rfl ?_)) | ((first | (refine wpM_val0 Ext.refl rfl ?_) | (refine wpM_val1 Ext.refl rfl rfl ?_)); apply Exists.intro; refine ⟨?_, ?_⟩; · (intro a w' hR; intro h1; (first | (have e1 : _ = _ := h1) | skip); intro h2; (first | (have e2 : _ = _ := h2) | skip); go_simp; rfl)) | ((first | (refine wpM_val0 Ext.refl rfl ?_) | (refine wpM_val1 Ext.refl rfl rfl ?_)); apply Exists.intro; refine ⟨?_, ?_⟩; · (intro a w' hR; intro h1; (first | (have e1 : _ = _ := h1) | skip); go_simp; rfl)) | ((first | (refine wpM_val0 Ext.refl rfl ?_) | (refine wpM_val1 Ext.refl rfl rfl ?_)); apply Exists.intro; refine ⟨?_, ?_⟩; · (intro a w' hR; go_simp; rfl)) | ((first | (refine wpM_val0 Ext.refl rfl ?_) | (refine wpM_val1 Ext.refl rfl rfl ?_)); apply Exists.intro; refine ⟨?_, ?_⟩; · (intro a w' hR; intro h1; (first | (have e1 : _ = _ := h1) | skip); intro h2; (first | (have e2 : _ = _ := h2) | skip); intro h3; (first | (have e3 : _ = _ := h3) | skip); go_simp; rfl)) | (refine wpM_skip1 rfl ?_) | (refine wpM_skipU rfl ?_))
                    first | (refine wpM_val0 Ext.refl rfl ?_) | (refine wpM_val1 Ext.refl rfl rfl ?_)
                    apply Exists.intro; refine ⟨?_, ?_⟩
                    · intro a w' hR h1
                      have e1 : _ = _ := h1
                      have hl0 := hR.cell d0
                      have hl1 := hR.cell d1
                      go_simp
                      rfl
                    repeat (first | ((first | (refine wpM_move00 Ext.refl rfl rfl rfl ?_) | (refine wpM_move01 Ext.refl rfl rfl rfl rfl ?_)); apply Exists.intro; refine ⟨?_, ?_⟩; · (go_simp; rfl)) | (first | (refine wpM_movek0 Ext.refl rfl rfl rfl ?_) | (refine wpM_movek1 Ext.refl rfl rfl rfl rfl ?_)) | ((first | (refine wpM_val0 Ext.refl rfl ?_) | (refine wpM_val1 Ext.refl rfl rfl ?_)); apply Exists.intro; refine ⟨?_, ?_⟩; · (intro a w' hR; intro h1; (first | (have e1 : _ = _ := h1) | skip); intro h2; (first | (have e2 : _ = _ := h2) | skip); go_simp; rfl)) | ((first | (refine wpM_val0 Ext.refl rfl ?_) | (refine wpM_val1 Ext.refl rfl rfl ?_)); apply Exists.intro; refine ⟨?_, ?_⟩; · (intro a w' hR; intro h1; (first | (have e1 : _ = _ := h1) | skip); go_simp; rfl)) | ((first | (refine wpM_val0 Ext.refl rfl ?_) | (refine wpM_val1 Ext.refl rfl rfl ?_)); apply Exists.intro; refine ⟨?_, ?_⟩; · (intro a w' hR; go_simp; rfl)) | ((first | (refine wpM_val0 Ext.refl rfl ?_) | (refine wpM_val1 Ext.refl rfl rfl ?_)); apply Exists.intro; refine ⟨?_, ?_⟩; · (intro a w' hR; intro h1; (first | (have e1 : _ = _ := h1) | skip); intro h2; (first | (have e2 : _ = _ := h2) | skip); intro h3; (first | (have e3 : _ = _ := h3) | skip); go_simp; rfl)) | (refine wpM_skip1 rfl ?_) | (refine wpM_skipU rfl ?_))
                    refine wpM_done ?_
                    intro w5 hx5
                    iterate 19 (rintro _ rfl)
                    dsimp only [FinV]
                    go_simp
                    have d0 := hx5.cell d0
                    have d1 := hx5.cell d1
                    have HX5 := Lib.hid ((HX.out.trans HX3.out).trans hx5)
                    have HO5 := Lib.hid (HO.out.ext (HX3.out.trans hx5))
                    clear hx5
                    go_wp2
                    have HB := Lib.hid (Below.refl w5.heap.size w5)
                    obtain ⟨hhi, rhi⟩ := RP.hi (k := j) elemM HO5.out.rp (by omega)
                    obtain ⟨A9, hlo, rlo⟩ := RP.lo (k := j) elemM HO5.out.rp (by omega)
                    have HHI := Lib.hid rhi
                    have HLO := Lib.hid rlo
                    clear rhi rlo
                    have hlt1 : (F.take j).length ≤ 1000000 := by rw [List.length_take]; omega
                    have hlt2 : (F.drop j).length ≤ 1000000 := by rw [List.length_drop]; omega
                    have HL1 := Lib.hid hlt1
                    have HL2 := Lib.hid hlt2
                    clear hlt1 hlt2
                    refine wp_region_tailZ 14 [87] [77, 81, 86] (fun a b => Ext a b ∧ Below (w5.heap.size) a b) (Below (w5.heap.size)) (fun _ => True) (by kernel_rfl) (by kernel_rfl) (by kernel_rfl) (by kernel_rfl) (by kernel_rfl) (by kernel_rfl) (by kernel_rfl) (by rfl) (by rfl) (by kernel_rfl) (by kernel_rfl) (by kernel_rfl) (fun _ _ _ x y => x.trans y) (Below.refl _) (fun _ _ x => x.2) (fun w => ⟨Ext.refl w, Below.refl _ w⟩) ⟨(Ext.refl _).drew, (Below.refl _ _).drew⟩ (fun _ _ _ _ => trivial) trivial ?_
                    refine wpZ_callA (fun c v w => c ≤ 0 → E0 w5.heap.size 29 v w) rfl rfl (by first | exact runs0 | exact runs1 rfl) rfl (keptC_0 fun _ _ _ h k => E0.ext h k.1) ?_ ?_
                    · intro a w' hR hS  K hK
                      go_simp
                      exact hK _ _ ⟨(Ext.refl _).alloc _, (Below.refl _ _).alloc hR.size _⟩ fun _ => E0.new _ _ hR.size
                    repeat (first | (refine wpZ_move0 rfl rfl (fun _ => (by first | exact runs0 | exact runs1 rfl)) (fun w => ⟨Ext.refl w, Below.refl _ w⟩) rfl rfl (fun _ => rfl) ?_; apply Exists.intro; refine ⟨?_, ?_⟩; · (go_simp; rfl)) | (refine wpZ_val rfl rfl (fun _ => (by first | exact runs0 | exact runs1 rfl)) (fun w => ⟨Ext.refl w, Below.refl _ w⟩) rfl ?_; apply Exists.intro; refine ⟨?_, ?_⟩; · (intro c a w' hR; intro h1; (first | (have e1 : _ = _ := h1) | skip); intro h2; (first | (have e2 : _ = _ := h2) | skip); go_simp; rfl)) | (refine wpZ_val rfl rfl (fun _ => (by first | exact runs0 | exact runs1 rfl)) (fun w => ⟨Ext.refl w, Below.refl _ w⟩) rfl ?_; apply Exists.intro; refine ⟨?_, ?_⟩; · (intro c a w' hR; intro h1; (first | (have e1 : _ = _ := h1) | skip); go_simp; rfl)) | (refine wpZ_val rfl rfl (fun _ => (by first | exact runs0 | exact runs1 rfl)) (fun w => ⟨Ext.refl w, Below.refl _ w⟩) rfl ?_; apply Exists.intro; refine ⟨?_, ?_⟩; · (intro c a w' hR; go_simp; rfl)) | (refine wpZ_val rfl rfl (fun _ => (by first | exact runs0 | exact runs1 rfl)) (fun w => ⟨Ext.refl w, Below.refl _ w⟩) rfl ?_; apply Exists.intro; refine ⟨?_, ?_⟩; · (intro c a w' hR; intro h1; (first | (have e1 : _ = _ := h1) | skip); intro h2; (first | (have e2 : _ = _ := h2) | skip); intro h3; (first | (have e3 : _ = _ := h3) | skip); go_simp; rfl)))
                    refine wpZ_callA (fun c v w => c ≤ 0 → OP 29 w5.heap.size w v (F.take j)) rfl rfl (by first | exact runs0 | exact runs1 rfl) rfl (keptC_0 fun _ _ _ h k => OP.ext h k.1) ?_ ?_
                    · intro a w' hR hS h1 h2 K hK
                      obtain ⟨x, ex, fx⟩ : ∃ x, a.tmps.getD 77 undef = x ∧ (fun v w => 0 ≤ 0 → E0 w5.heap.size 29 v w) x w' := ⟨_, rfl, h1⟩
                      have e2 : _ = _ := h2
                      refine wp_app0 elemM _ (.tmp 77) (.tmp 80) rfl x ex (fx (Nat.le_refl _)) _ (F.take j).length (pV (F.take j)) (e2 : a.tmps.getD 80 undef = _) (HHI.out.ext (show Ext w5 w' from hR)).rd (one_pV _) (by have := HL1.out; omega) (by have := HL1.out; unfold maxLen; omega) ?_
                      intro v' w2 he ho
                      exact hK _ _ ⟨he, Below.mono he hR.size⟩ fun _ => O0.op ho
                    repeat (first | (refine wpZ_move0 rfl rfl (fun _ => (by first | exact runs0 | exact runs1 rfl)) (fun w => ⟨Ext.refl w, Below.refl _ w⟩) rfl rfl (fun _ => rfl) ?_; apply Exists.intro; refine ⟨?_, ?_⟩; · (go_simp; rfl)) | (refine wpZ_val rfl rfl (fun _ => (by first | exact runs0 | exact runs1 rfl)) (fun w => ⟨Ext.refl w, Below.refl _ w⟩) rfl ?_; apply Exists.intro; refine ⟨?_, ?_⟩; · (intro c a w' hR; intro h1; (first | (have e1 : _ = _ := h1) | skip); intro h2; (first | (have e2 : _ = _ := h2) | skip); go_simp; rfl)) | (refine wpZ_val rfl rfl (fun _ => (by first | exact runs0 | exact runs1 rfl)) (fun w => ⟨Ext.refl w, Below.refl _ w⟩) rfl ?_; apply Exists.intro; refine ⟨?_, ?_⟩; · (intro c a w' hR; intro h1; (first | (have e1 : _ = _ := h1) | skip); go_simp; rfl)) | (refine wpZ_val rfl rfl (fun _ => (by first | exact runs0 | exact runs1 rfl)) (fun w => ⟨Ext.refl w, Below.refl _ w⟩) rfl ?_; apply Exists.intro; refine ⟨?_, ?_⟩; · (intro c a w' hR; go_simp; rfl)) | (refine wpZ_val rfl rfl (fun _ => (by first | exact runs0 | exact runs1 rfl)) (fun w => ⟨Ext.refl w, Below.refl _ w⟩) rfl ?_; apply Exists.intro; refine ⟨?_, ?_⟩; · (intro c a w' hR; intro h1; (first | (have e1 : _ = _ := h1) | skip); intro h2; (first | (have e2 : _ = _ := h2) | skip); intro h3; (first | (have e3 : _ = _ := h3) | skip); go_simp; rfl)))
                    refine wpZ_val rfl rfl (fun _ => (by first | exact runs0 | exact runs1 rfl)) (fun w => ⟨Ext.refl w, Below.refl _ w⟩) rfl ?_; apply Exists.intro; refine ⟨?_, ?_⟩
                    · intro c a w' hR h1
                      have e1 : _ = _ := h1
                      have hl0 := (show Ext w5 w' from hR).cell d0
                      have hl1 := (show Ext w5 w' from hR).cell d1
                      go_simp
                      rfl
                    refine wpZ_callA (fun c v w => c ≤ 0 → RP w v [(m1, m2)]) rfl rfl (by first | exact runs0 | exact runs1 rfl) rfl (keptC_0 fun _ _ _ h k => RP.ext h k.1) ?_ ?_
                    · intro a w' hR hS h1 K hK
                      have e1 : _ = _ := h1
                      have q9 : a.tmps[85]?.getD undef = .agg #[.int .i64 m1, .int .i64 m2] := by simpa using e1
                      go_simp
                      exact hK _ _ ⟨(Ext.refl _).alloc _, (Below.refl _ _).alloc hR.size _⟩ fun _ => RP.lit _ #[.int .i64 m1, .int .i64 m2] 29 1 [(m1, m2)] rfl (by omega) rfl
                    refine wpZ_eff (fun c v w => 1 ≤ c ∧ (c ≤ 1 → OP 29 w5.heap.size w v (F.take j ++ [(m1, m2)]))) (fun _ => True) rfl (by first | exact runs0 | exact runs1 rfl) rfl (keptC_at fun _ _ _ h k => OP.ext h k.1) (fun _ _ _ _ => trivial) ?_ ?_
                    · intro a w' hR hS h1 h2 K hK
                      obtain ⟨x, ex, fx⟩ : ∃ x, a.tmps.getD 81 undef = x ∧ (fun v w => 0 ≤ 0 → OP 29 w5.heap.size w v (F.take j)) x w' := ⟨_, rfl, h1⟩
                      obtain ⟨y, ey, fy⟩ : ∃ x, a.tmps.getD 86 undef = x ∧ (fun v w => 0 ≤ 0 → RP w v [(m1, m2)]) x w' := ⟨_, rfl, h2⟩
                      have hfx := fx (Nat.le_refl _)
                      have hfy := fy (Nat.le_refl _)
                      refine wp_app elemM _ (.tmp 81) (.tmp 86) rfl w5.heap.size x (F.take j).length (pV (F.take j)) ex hfx.own y 1 (pV [(m1, m2)]) ey hfy.rd (one_pV _) (by have := HL1.out; omega) (by have := HL1.out; unfold maxLen; omega) hR.size ?_
                      intro v' w2 ha
                      exact hK _ _ (Below.grown (Below.refl _ _) ha.grown hR.size fun k hk => (hfx.own.lt k hk).1) trivial ⟨Nat.le_refl _, fun _ => OP.app ha.own⟩
                    repeat (first | (refine wpZ_move0 rfl rfl (fun _ => (by first | exact runs0 | exact runs1 rfl)) (fun w => ⟨Ext.refl w, Below.refl _ w⟩) rfl rfl (fun _ => rfl) ?_; apply Exists.intro; refine ⟨?_, ?_⟩; · (go_simp; rfl)) | (refine wpZ_val rfl rfl (fun _ => (by first | exact runs0 | exact runs1 rfl)) (fun w => ⟨Ext.refl w, Below.refl _ w⟩) rfl ?_; apply Exists.intro; refine ⟨?_, ?_⟩; · (intro c a w' hR; intro h1; (first | (have e1 : _ = _ := h1) | skip); intro h2; (first | (have e2 : _ = _ := h2) | skip); go_simp; rfl)) | (refine wpZ_val rfl rfl (fun _ => (by first | exact runs0 | exact runs1 rfl)) (fun w => ⟨Ext.refl w, Below.refl _ w⟩) rfl ?_; apply Exists.intro; refine ⟨?_, ?_⟩; · (intro c a w' hR; intro h1; (first | (have e1 : _ = _ := h1) | skip); go_simp; rfl)) | (refine wpZ_val rfl rfl (fun _ => (by first | exact runs0 | exact runs1 rfl)) (fun w => ⟨Ext.refl w, Below.refl _ w⟩) rfl ?_; apply Exists.intro; refine ⟨?_, ?_⟩; · (intro c a w' hR; go_simp; rfl)) | (refine wpZ_val rfl rfl (fun _ => (by first | exact runs0 | exact runs1 rfl)) (fun w => ⟨Ext.refl w, Below.refl _ w⟩) rfl ?_; apply Exists.intro; refine ⟨?_, ?_⟩; · (intro c a w' hR; intro h1; (first | (have e1 : _ = _ := h1) | skip); intro h2; (first | (have e2 : _ = _ := h2) | skip); intro h3; (first | (have e3 : _ = _ := h3) | skip); go_simp; rfl)))
                    refine wpZ_done ?_
                    intro w6 hx6 hS6
                    rintro v77 h77
                    iterate 3 (rintro _ rfl)
                    rintro v81 h81
                    iterate 4 (rintro _ rfl)
                    rintro v86 h86
                    rintro v87 h87
                    iterate 3 (rintro _ rfl)
                    dsimp only [FinV]
                    go_simp
                    have hx6 : Ext w5 w6 := hx6
                    have HX6 := Lib.hid hx6
                    have HO7 := Lib.hid (h87.2 (Nat.le_refl _))
                    clear hx6 h77 h81 h86 h87 hS6 hhi hlo
                    simp only [thenTail, List.drop_succ_cons, List.drop_zero]
                    go_wp2_with (refine wpList_app rfl elemM w6 (.tmp 87) (.tmp 90) rfl w5.heap.size v87 _ _ rfl HO7.out.own _ (F.drop j).length (pV (F.drop j)) rfl (HLO.out.ext HX6.out).rd (one_pV _) (by have := HL1.out; have := HL2.out; rw [List.length_append, List.length_singleton]; omega) (by have := HL1.out; have := HL2.out; rw [List.length_append, List.length_singleton]; unfold maxLen; omega) HX6.out.size ?_; intro v8 w8 ha)
                    refine ⟨⟨i + 1, by omega, by go_num, ?_, HX5.out.trans (ha.ext HX6.out rfl HO7.out.own)⟩, by simp [intOf]; omega⟩
                    rw [HS.out, rstep_ins l F (m1, m2) j HLB.out HPL.out HNE.out]
                    exact (OP.app ha.own).low HX5.out.size
            · have q1 : ¬ (j : Int) < (F.length : Int) := by omega
              go_wp2
              refine wp_region_ext (by kernel_rfl) (by rfl) (by rfl) (by kernel_rfl) ?_
              repeat (first | ((first | (refine wpM_move00 Ext.refl rfl rfl rfl ?_) | (refine wpM_move01 Ext.refl rfl rfl rfl rfl ?_)); apply Exists.intro; refine ⟨?_, ?_⟩; · (go_simp; rfl)) | (first | (refine wpM_movek0 Ext.refl rfl rfl rfl ?_) | (refine wpM_movek1 Ext.refl rfl rfl rfl rfl ?_)) | ((first | (refine wpM_val0 Ext.refl rfl ?_) | (refine wpM_val1 Ext.refl rfl rfl ?_)); apply Exists.intro; refine ⟨?_, ?_⟩; · (intro a w' hR; intro h1; (first | (have e1 : _ = _ := h1) | skip); intro h2; (first | (have e2 : _ = _ := h2) | skip); go_simp; rfl)) | ((first | (refine wpM_val0 Ext.refl rfl ?_) | (refine wpM_val1 Ext.refl rfl rfl ?_)); apply Exists.intro; refine ⟨?_, ?_⟩; · (intro a w' hR; intro h1; (first | (have e1 : _ = _ := h1) | skip); go_simp; rfl)) | ((first | (refine wpM_val0 Ext.refl rfl ?_) | (refine wpM_val1 Ext.refl rfl rfl ?_)); apply Exists.intro; refine ⟨?_, ?_⟩; · (intro a w' hR; go_simp; rfl)) | ((first | (refine wpM_val0 Ext.refl rfl ?_) | (refine wpM_val1 Ext.refl rfl rfl ?_)); apply Exists.intro; refine ⟨?_, ?_⟩; · (intro a w' hR; intro h1; (first | (have e1 : _ = _ := h1) | skip); intro h2; (first | (have e2 : _ = _ := h2) | skip); intro h3; (first | (have e3 : _ = _ := h3) | skip); go_simp; rfl)) | (refine wpM_skip1 rfl ?_) | (refine wpM_skipU rfl ?_))
              refine wpM_done ?_
              intro w4 hx4
              iterate 16 (rintro _ rfl)
              dsimp only [FinV]
              go_simp
              have HX3 := Lib.hid (HX3.out.trans hx4)
              clear hx4
              have HPL := Lib.hid (place_at F (m1, m2) j hj HA3.out (fun h => absurd h hjF))
              have HNE := Lib.hid (show ∀ hj : j < F.length, F[j] ≠ (m1, m2) from fun h => absurd h hjF)
              cases hlb : Mom.least l (m1, m2) with
              | false =>
                have HLBf := Lib.hid hlb
                clear hlb
                go_wp2
                refine wp_region_ext (by kernel_rfl) (by rfl) (by rfl) (by kernel_rfl) ?_
                repeat (first | ((first | (refine wpM_move00 Ext.refl rfl rfl rfl ?_) | (refine wpM_move01 Ext.refl rfl rfl rfl rfl ?_)); apply Exists.intro; refine ⟨?_, ?_⟩; · (go_simp; rfl)) | (first | (refine wpM_movek0 Ext.refl rfl rfl rfl ?_) | (refine wpM_movek1 Ext.refl rfl rfl rfl rfl ?_)) | ((first | (refine wpM_val0 Ext.refl rfl ?_) | (refine wpM_val1 Ext.refl rfl rfl ?_)); apply Exists.intro; refine ⟨?_, ?_⟩; · (intro a w' hR; intro h1; (first | (have e1 : _ = _ := h1) | skip); intro h2; (first | (have e2 : _ = _ := h2) | skip); go_simp; rfl)) | ((first | (refine wpM_val0 Ext.refl rfl ?_) | (refine wpM_val1 Ext.refl rfl rfl ?_)); apply Exists.intro; refine ⟨?_, ?_⟩; · (intro a w' hR; intro h1; (first | (have e1 : _ = _ := h1) | skip); go_simp; rfl)) | ((first | (refine wpM_val0 Ext.refl rfl ?_) | (refine wpM_val1 Ext.refl rfl rfl ?_)); apply Exists.intro; refine ⟨?_, ?_⟩; · (intro a w' hR; go_simp; rfl)) | ((first | (refine wpM_val0 Ext.refl rfl ?_) | (refine wpM_val1 Ext.refl rfl rfl ?_)); apply Exists.intro; refine ⟨?_, ?_⟩; · (intro a w' hR; intro h1; (first | (have e1 : _ = _ := h1) | skip); intro h2; (first | (have e2 : _ = _ := h2) | skip); intro h3; (first | (have e3 : _ = _ := h3) | skip); go_simp; rfl)) | (refine wpM_skip1 rfl ?_) | (refine wpM_skipU rfl ?_))
                refine wpM_done ?_
                intro w5 hx5
                iterate 19 (rintro _ rfl)
                dsimp only [FinV]
                go_simp
                have HX5 := Lib.hid ((HX.out.trans HX3.out).trans hx5)
                have HO5 := Lib.hid (HO.out.ext (HX3.out.trans hx5))
                clear hx5
                go_wp2
                refine ⟨⟨i + 1, by omega, by go_num, ?_, HX5.out⟩, by simp [intOf]; omega⟩
                rw [HS.out, rstep_skip l F (m1, m2) HLBf.out]
                exact HO5.out
              | true =>
                have HLB := Lib.hid hlb
                clear hlb
                go_wp2
                refine wp_region_ext (by kernel_rfl) (by rfl) (by rfl) (by kernel_rfl) ?_
                repeat (first | ((first | (refine wpM_move00 Ext.refl rfl rfl rfl ?_) | (refine wpM_move01 Ext.refl rfl rfl rfl rfl ?_)); apply Exists.intro; refine ⟨?_, ?_⟩; · (go_simp; rfl)) | (first | (refine wpM_movek0 Ext.refl rfl rfl rfl ?_) | (refine wpM_movek1 Ext.refl rfl rfl rfl rfl ?_)) | ((first | (refine wpM_val0 Ext.refl rfl ?_) | (refine wpM_val1 Ext.refl rfl rfl ?_)); apply Exists.intro; refine ⟨?_, ?_⟩; · (intro a w' hR; intro h1; (first | (have e1 : _ = _ := h1) | skip); intro h2; (first | (have e2 : _ = _ := h2) | skip); go_simp; rfl)) | ((first | (refine wpM_val0 Ext.refl rfl ?_) | (refine wpM_val1 Ext.refl rfl rfl ?_)); apply Exists.intro; refine ⟨?_, ?_⟩; · (intro a w' hR; intro h1; (first | (have e1 : _ = _ := h1) | skip); go_simp; rfl)) | ((first | (refine wpM_val0 Ext.refl rfl ?_) | (refine wpM_val1 Ext.refl rfl rfl ?_)); apply Exists.intro; refine ⟨?_, ?_⟩; · (intro a w' hR; go_simp; rfl)) | ((first | (refine wpM_val0 Ext.refl rfl ?_) | (refine wpM_val1 Ext.refl rfl rfl ?_)); apply Exists.intro; refine ⟨?_, ?_⟩; · (intro a w' hR; intro h1; (first | (have e1 : _ = _ := h1) | skip); intro h2; (first | (have e2 : _ = _ := h2) | skip); intro h3; (first | (have e3 : _ = _ := h3) | skip); go_simp; rfl)) | (refine wpM_skip1 rfl ?_) | (refine wpM_skipU rfl ?_))
                refine wpM_done ?_
                intro w5 hx5
                iterate 19 (rintro _ rfl)
                dsimp only [FinV]
                go_simp
                have d0 := HX3.out.cell c0
                have d1 := HX3.out.cell c1
                have d0 := hx5.cell d0
                have d1 := hx5.cell d1
                have HX5 := Lib.hid ((HX.out.trans HX3.out).trans hx5)
                have HO5 := Lib.hid (HO.out.ext (HX3.out.trans hx5))
                clear hx5
                go_wp2
                have HB := Lib.hid (Below.refl w5.heap.size w5)
                obtain ⟨hhi, rhi⟩ := RP.hi (k := j) elemM HO5.out.rp (by omega)
                obtain ⟨A9, hlo, rlo⟩ := RP.lo (k := j) elemM HO5.out.rp (by omega)
                have HHI := Lib.hid rhi
                have HLO := Lib.hid rlo
                clear rhi rlo
                have hlt1 : (F.take j).length ≤ 1000000 := by rw [List.length_take]; omega
                have hlt2 : (F.drop j).length ≤ 1000000 := by rw [List.length_drop]; omega
                have HL1 := Lib.hid hlt1
                have HL2 := Lib.hid hlt2
                clear hlt1 hlt2
                refine wp_region_tailZ 14 [87] [77, 81, 86] (fun a b => Ext a b ∧ Below (w5.heap.size) a b) (Below (w5.heap.size)) (fun _ => True) (by kernel_rfl) (by kernel_rfl) (by kernel_rfl) (by kernel_rfl) (by kernel_rfl) (by kernel_rfl) (by kernel_rfl) (by rfl) (by rfl) (by kernel_rfl) (by kernel_rfl) (by kernel_rfl) (fun _ _ _ x y => x.trans y) (Below.refl _) (fun _ _ x => x.2) (fun w => ⟨Ext.refl w, Below.refl _ w⟩) ⟨(Ext.refl _).drew, (Below.refl _ _).drew⟩ (fun _ _ _ _ => trivial) trivial ?_
                refine wpZ_callA (fun c v w => c ≤ 0 → E0 w5.heap.size 29 v w) rfl rfl (by first | exact runs0 | exact runs1 rfl) rfl (keptC_0 fun _ _ _ h k => E0.ext h k.1) ?_ ?_
                · intro a w' hR hS  K hK
                  go_simp
                  exact hK _ _ ⟨(Ext.refl _).alloc _, (Below.refl _ _).alloc hR.size _⟩ fun _ => E0.new _ _ hR.size
                repeat (first | (refine wpZ_move0 rfl rfl (fun _ => (by first | exact runs0 | exact runs1 rfl)) (fun w => ⟨Ext.refl w, Below.refl _ w⟩) rfl rfl (fun _ => rfl) ?_; apply Exists.intro; refine ⟨?_, ?_⟩; · (go_simp; rfl)) | (refine wpZ_val rfl rfl (fun _ => (by first | exact runs0 | exact runs1 rfl)) (fun w => ⟨Ext.refl w, Below.refl _ w⟩) rfl ?_; apply Exists.intro; refine ⟨?_, ?_⟩; · (intro c a w' hR; intro h1; (first | (have e1 : _ = _ := h1) | skip); intro h2; (first | (have e2 : _ = _ := h2) | skip); go_simp; rfl)) | (refine wpZ_val rfl rfl (fun _ => (by first | exact runs0 | exact runs1 rfl)) (fun w => ⟨Ext.refl w, Below.refl _ w⟩) rfl ?_; apply Exists.intro; refine ⟨?_, ?_⟩; · (intro c a w' hR; intro h1; (first | (have e1 : _ = _ := h1) | skip); go_simp; rfl)) | (refine wpZ_val rfl rfl (fun _ => (by first | exact runs0 | exact runs1 rfl)) (fun w => ⟨Ext.refl w, Below.refl _ w⟩) rfl ?_; apply Exists.intro; refine ⟨?_, ?_⟩; · (intro c a w' hR; go_simp; rfl)) | (refine wpZ_val rfl rfl (fun _ => (by first | exact runs0 | exact runs1 rfl)) (fun w => ⟨Ext.refl w, Below.refl _ w⟩) rfl ?_; apply Exists.intro; refine ⟨?_, ?_⟩; · (intro c a w' hR; intro h1; (first | (have e1 : _ = _ := h1) | skip); intro h2; (first | (have e2 : _ = _ := h2) | skip); intro h3; (first | (have e3 : _ = _ := h3) | skip); go_simp; rfl)))
                refine wpZ_callA (fun c v w => c ≤ 0 → OP 29 w5.heap.size w v (F.take j)) rfl rfl (by first | exact runs0 | exact runs1 rfl) rfl (keptC_0 fun _ _ _ h k => OP.ext h k.1) ?_ ?_
                · intro a w' hR hS h1 h2 K hK
                  obtain ⟨x, ex, fx⟩ : ∃ x, a.tmps.getD 77 undef = x ∧ (fun v w => 0 ≤ 0 → E0 w5.heap.size 29 v w) x w' := ⟨_, rfl, h1⟩
                  have e2 : _ = _ := h2
                  refine wp_app0 elemM _ (.tmp 77) (.tmp 80) rfl x ex (fx (Nat.le_refl _)) _ (F.take j).length (pV (F.take j)) (e2 : a.tmps.getD 80 undef = _) (HHI.out.ext (show Ext w5 w' from hR)).rd (one_pV _) (by have := HL1.out; omega) (by have := HL1.out; unfold maxLen; omega) ?_
                  intro v' w2 he ho
                  exact hK _ _ ⟨he, Below.mono he hR.size⟩ fun _ => O0.op ho
                repeat (first | (refine wpZ_move0 rfl rfl (fun _ => (by first | exact runs0 | exact runs1 rfl)) (fun w => ⟨Ext.refl w, Below.refl _ w⟩) rfl rfl (fun _ => rfl) ?_; apply Exists.intro; refine ⟨?_, ?_⟩; · (go_simp; rfl)) | (refine wpZ_val rfl rfl (fun _ => (by first | exact runs0 | exact runs1 rfl)) (fun w => ⟨Ext.refl w, Below.refl _ w⟩) rfl ?_; apply Exists.intro; refine ⟨?_, ?_⟩; · (intro c a w' hR; intro h1; (first | (have e1 : _ = _ := h1) | skip); intro h2; (first | (have e2 : _ = _ := h2) | skip); go_simp; rfl)) | (refine wpZ_val rfl rfl (fun _ => (by first | exact runs0 | exact runs1 rfl)) (fun w => ⟨Ext.refl w, Below.refl _ w⟩) rfl ?_; apply Exists.intro; refine ⟨?_, ?_⟩; · (intro c a w' hR; intro h1; (first | (have e1 : _ = _ := h1) | skip); go_simp; rfl)) | (refine wpZ_val rfl rfl (fun _ => (by first | exact runs0 | exact runs1 rfl)) (fun w => ⟨Ext.refl w, Below.refl _ w⟩) rfl ?_; apply Exists.intro; refine ⟨?_, ?_⟩; · (intro c a w' hR; go_simp; rfl)) | (refine wpZ_val rfl rfl (fun _ => (by first | exact runs0 | exact runs1 rfl)) (fun w => ⟨Ext.refl w, Below.refl _ w⟩) rfl ?_; apply Exists.intro; refine ⟨?_, ?_⟩; · (intro c a w' hR; intro h1; (first | (have e1 : _ = _ := h1) | skip); intro h2; (first | (have e2 : _ = _ := h2) | skip); intro h3; (first | (have e3 : _ = _ := h3) | skip); go_simp; rfl)))
                refine wpZ_val rfl rfl (fun _ => (by first | exact runs0 | exact runs1 rfl)) (fun w => ⟨Ext.refl w, Below.refl _ w⟩) rfl ?_; apply Exists.intro; refine ⟨?_, ?_⟩
                · intro c a w' hR h1
                  have e1 : _ = _ := h1
                  have hl0 := (show Ext w5 w' from hR).cell d0
                  have hl1 := (show Ext w5 w' from hR).cell d1
                  go_simp
                  rfl
                refine wpZ_callA (fun c v w => c ≤ 0 → RP w v [(m1, m2)]) rfl rfl (by first | exact runs0 | exact runs1 rfl) rfl (keptC_0 fun _ _ _ h k => RP.ext h k.1) ?_ ?_
                · intro a w' hR hS h1 K hK
                  have e1 : _ = _ := h1
                  have q9 : a.tmps[85]?.getD undef = .agg #[.int .i64 m1, .int .i64 m2] := by simpa using e1
                  go_simp
                  exact hK _ _ ⟨(Ext.refl _).alloc _, (Below.refl _ _).alloc hR.size _⟩ fun _ => RP.lit _ #[.int .i64 m1, .int .i64 m2] 29 1 [(m1, m2)] rfl (by omega) rfl
                refine wpZ_eff (fun c v w => 1 ≤ c ∧ (c ≤ 1 → OP 29 w5.heap.size w v (F.take j ++ [(m1, m2)]))) (fun _ => True) rfl (by first | exact runs0 | exact runs1 rfl) rfl (keptC_at fun _ _ _ h k => OP.ext h k.1) (fun _ _ _ _ => trivial) ?_ ?_
                · intro a w' hR hS h1 h2 K hK
                  obtain ⟨x, ex, fx⟩ : ∃ x, a.tmps.getD 81 undef = x ∧ (fun v w => 0 ≤ 0 → OP 29 w5.heap.size w v (F.take j)) x w' := ⟨_, rfl, h1⟩
                  obtain ⟨y, ey, fy⟩ : ∃ x, a.tmps.getD 86 undef = x ∧ (fun v w => 0 ≤ 0 → RP w v [(m1, m2)]) x w' := ⟨_, rfl, h2⟩
                  have hfx := fx (Nat.le_refl _)
                  have hfy := fy (Nat.le_refl _)
                  refine wp_app elemM _ (.tmp 81) (.tmp 86) rfl w5.heap.size x (F.take j).length (pV (F.take j)) ex hfx.own y 1 (pV [(m1, m2)]) ey hfy.rd (one_pV _) (by have := HL1.out; omega) (by have := HL1.out; unfold maxLen; omega) hR.size ?_
                  intro v' w2 ha
                  exact hK _ _ (Below.grown (Below.refl _ _) ha.grown hR.size fun k hk => (hfx.own.lt k hk).1) trivial ⟨Nat.le_refl _, fun _ => OP.app ha.own⟩
                repeat (first | (refine wpZ_move0 rfl rfl (fun _ => (by first | exact runs0 | exact runs1 rfl)) (fun w => ⟨Ext.refl w, Below.refl _ w⟩) rfl rfl (fun _ => rfl) ?_; apply Exists.intro; refine ⟨?_, ?_⟩; · (go_simp; rfl)) | (refine wpZ_val rfl rfl (fun _ => (by first | exact runs0 | exact runs1 rfl)) (fun w => ⟨Ext.refl w, Below.refl _ w⟩) rfl ?_; apply Exists.intro; refine ⟨?_, ?_⟩; · (intro c a w' hR; intro h1; (first | (have e1 : _ = _ := h1) | skip); intro h2; (first | (have e2 : _ = _ := h2) | skip); go_simp; rfl)) | (refine wpZ_val rfl rfl (fun _ => (by first | exact runs0 | exact runs1 rfl)) (fun w => ⟨Ext.refl w, Below.refl _ w⟩) rfl ?_; apply Exists.intro; refine ⟨?_, ?_⟩; · (intro c a w' hR; intro h1; (first | (have e1 : _ = _ := h1) | skip); go_simp; rfl)) | (refine wpZ_val rfl rfl (fun _ => (by first | exact runs0 | exact runs1 rfl)) (fun w => ⟨Ext.refl w, Below.refl _ w⟩) rfl ?_; apply Exists.intro; refine ⟨?_, ?_⟩; · (intro c a w' hR; go_simp; rfl)) | (refine wpZ_val rfl rfl (fun _ => (by first | exact runs0 | exact runs1 rfl)) (fun w => ⟨Ext.refl w, Below.refl _ w⟩) rfl ?_; apply Exists.intro; refine ⟨?_, ?_⟩; · (intro c a w' hR; intro h1; (first | (have e1 : _ = _ := h1) | skip); intro h2; (first | (have e2 : _ = _ := h2) | skip); intro h3; (first | (have e3 : _ = _ := h3) | skip); go_simp; rfl)))
                refine wpZ_done ?_
                intro w6 hx6 hS6
                rintro v77 h77
                iterate 3 (rintro _ rfl)
                rintro v81 h81
                iterate 4 (rintro _ rfl)
                rintro v86 h86
                rintro v87 h87
                iterate 3 (rintro _ rfl)
                dsimp only [FinV]
                go_simp
                have hx6 : Ext w5 w6 := hx6
                have HX6 := Lib.hid hx6
                have HO7 := Lib.hid (h87.2 (Nat.le_refl _))
                clear hx6 h77 h81 h86 h87 hS6 hhi hlo
                simp only [thenTail, List.drop_succ_cons, List.drop_zero]
                go_wp2_with (refine wpList_app rfl elemM w6 (.tmp 87) (.tmp 90) rfl w5.heap.size v87 _ _ rfl HO7.out.own _ (F.drop j).length (pV (F.drop j)) rfl (HLO.out.ext HX6.out).rd (one_pV _) (by have := HL1.out; have := HL2.out; rw [List.length_append, List.length_singleton]; omega) (by have := HL1.out; have := HL2.out; rw [List.length_append, List.length_singleton]; unfold maxLen; omega) HX6.out.size ?_; intro v8 w8 ha)
                refine ⟨⟨i + 1, by omega, by go_num, ?_, HX5.out.trans (ha.ext HX6.out rfl HO7.out.own)⟩, by simp [intOf]; omega⟩
                rw [HS.out, rstep_ins l F (m1, m2) j HLB.out HPL.out HNE.out]
                exact (OP.app ha.own).low HX5.out.size
    · obtain rfl : i = l.length := by omega
      rw [List.take_length] at HO
      have g1 : ¬ (l.length : Int) < (l.length : Int) := by omega
      generalize hF : l.foldl (Mom.rstep l) [] = F at *
      obtain ⟨AF, cF, rfl⟩ := HO.out.rp.form
      have HF := Lib.hid hF
      clear hF
      go_wp2
      go_ret
      refine ⟨_, rfl, ?_, HX.out⟩
      unfold Mom.rfront
      rw [HF.out]
      exact HO.out
end Go.Proofs.Ytbokblklldphgaa.Mo
