/-
  LaStr, packed: what the claim needs of them.
-/
import Derived.Test.YtpmgmiiidfconaaGreatDoorPz11
import Derived.Test.YtpmgmiiidfconaaGreatDoorPz13
set_option linter.unusedVariables false
set_option linter.unusedSimpArgs false
namespace Go.Ox.La
open Go Go.Ox
instance encW : Enc W where
  k := 1
  enc x := [strV x]
  len _ := rfl
  pos := by omega
  one x u hu := by simp at hu; subst hu; rfl
end Go.Ox.La
namespace Go.Proofs.YtpmgmiiidfconaaGreatDoor
open Go.RowKit Go.Ox Go.Ox.Gr Go.Ox.Sc Go.Ox.La Go.Shelf
theorem elemW : Elem Tryz.prog 29 9 (.string ⟨#[]⟩) 1 16 := Elem.mk' Tryz.underlying29 (by kernel_rfl) rfl (by omega)
theorem reW1 {w : World} {A : Option Addr} {n c : Nat} {l : List W} (h : RE w (.slice A n c) l) {k : Nat} (hk : k < l.length) :
    ∃ b o, A = some ⟨b, o, none⟩ ∧ w.cell? ⟨b, o + k, none⟩ = some (strV l[k]) := by
  obtain ⟨b, o, e, h2⟩ := h.at_ hk
  have := h2 0 _ rfl
  rw [show encW.k = 1 from rfl, Nat.mul_one, Nat.add_zero] at this
  exact ⟨b, o, e, this⟩
theorem wnB_no {l : W} (h : ¬ (wnF l = true ∧ l.all digB = true)) : wnB l = (0, false) := by unfold wnB; rw [if_neg h]
theorem wnB_yes {l : W} (h : wnF l = true) (h2 : l.all digB = true) : wnB l = ((wnV l : Int), true) := by unfold wnB; rw [if_pos ⟨h, h2⟩]
theorem run_strIx (l : W) (k : Nat) (h : k < l.length) (w : World) : (Instr.index 9 (strV l) (.int .i64 (k : Int))).run Tryz.prog w = .ok (.int .u8 (l[k].toNat : Int)) w := by
  have hk : ((⟨l.toArray⟩ : ByteArray)[k]? : Option UInt8) = some l[k] := by
    have hs : k < (⟨l.toArray⟩ : ByteArray).size := by simpa [ByteArray.size] using h
    rw [getElem?_pos (⟨l.toArray⟩ : ByteArray) k hs]
    rfl
  have h0 : (0 : Int) ≤ (k : Int) := by omega
  simp [Instr.index, asIntOf, run_underlying Tryz.underlying9, h0, hk]
set_option maxRecDepth 100000 in
set_option maxHeartbeats 4000000 in
theorem num29_any (l : W) (w : World) (hl : l.length ≤ 1000000) : Calls Tryz.prog 48 #[strV l] w fun e w' => e = .returned (.tuple #[.int .i64 (wnB l).1, .bool (wnB l).2]) ∧ w = w' := by
  by_cases h1 : l.length < 1
  · have r1 : (l.length : Int) < 1 := by omega
    have HR := Lib.hid (show wnB l = (0, false) from wnB_no fun h => by have := h.1; unfold wnF at this; simp at this; omega)
    go_enter Tryz.func48, Tryz.ntmps48
    go_wp2
    go_ret2
    exact ⟨by rw [HR.out]; rfl, rfl⟩
  have r1 : ¬ (l.length : Int) < 1 := by omega
  have r1n : ¬ l.length < 1 := h1
  by_cases h2 : 10 < l.length
  · have r2 : (10 : Int) < (l.length : Int) := by omega
    have HR := Lib.hid (show wnB l = (0, false) from wnB_no fun h => by have := h.1; unfold wnF at this; simp at this; omega)
    go_enter Tryz.func48, Tryz.ntmps48
    go_wp2
    go_ret2
    exact ⟨by rw [HR.out]; rfl, rfl⟩
  have r2 : ¬ (10 : Int) < (l.length : Int) := by omega
  have r2n : ¬ 10 < l.length := h2
  have hx0 := run_strIx l 0 (by omega)
  rw [show ((0 : Nat) : Int) = 0 from rfl] at hx0
  have HC0 := Lib.hid (show l.getD 0 0 = l[0]'(by omega) from by simp [List.getD, show 0 < l.length by omega])
  obtain ⟨c, hc⟩ : ∃ c, l[0]'(by omega) = c := ⟨_, rfl⟩
  rw [hc] at hx0 HC0
  clear hc
  have HF := Lib.hid (show ¬ (c.toNat = 48 ∧ 1 < l.length) → wnF l = true from fun h3 => by
    unfold wnF
    simp only [Bool.and_eq_true, Bool.or_eq_true, decide_eq_true_eq]
    refine ⟨by omega, by omega, ?_⟩
    by_cases h5 : 1 < l.length
    · left
      rw [HC0.out]
      intro e
      exact h3 ⟨by rw [e]; rfl, h5⟩
    · right; omega)
  have HR0 := Lib.hid (show c.toNat = 48 ∧ 1 < l.length → wnB l = (0, false) from fun h3 => wnB_no fun h => by
    have h9 := h.1
    unfold wnF at h9
    simp only [Bool.and_eq_true, Bool.or_eq_true, decide_eq_true_eq] at h9
    rcases h9.2.2 with h8 | h8
    · rw [HC0.out] at h8
      exact h8 (UInt8.toNat_inj.1 h3.1)
    · omega)
  clear h1 h2 HC0
  go_enter Tryz.func48, Tryz.ntmps48
  by_cases h3 : c.toNat = 48
  · have r3 : (c.toNat : Int) = 48 := by omega
    by_cases h4 : 1 < l.length
    · have r4 : (1 : Int) < (l.length : Int) := by omega
      have HR := Lib.hid (HR0.out ⟨h3, h4⟩)
      go_wp2
      go_ret2
      exact ⟨by rw [HR.out]; rfl, rfl⟩
    · have r4 : ¬ (1 : Int) < (l.length : Int) := by omega
      have HF := Lib.hid (HF.out fun h => h4 h.2)
      go_wp2
      clear hx0 r3 r4 h3 HR0
      go_loopw [4, 5] (fun nv iv wr => ∃ k : Nat, k ≤ l.length ∧ iv = .int .i64 (k : Int) ∧ nv = .int .i64 (wnV (l.take k) : Int) ∧ (l.take k).all digB = true ∧ w = wr) (fun _ iv _ => l.length - (intOf iv).toNat)
      case atStart => exact ⟨0, Nat.zero_le _, rfl, rfl, by simp, rfl⟩
      case round =>
        obtain ⟨k, hk, rfl, rfl, hall, rfl⟩ := hrel
        have HA := Lib.hid hall
        have hk9 : k ≤ 10 := by omega
        clear hall
        by_cases hlt : k < l.length
        · have q1 : (k : Int) < (l.length : Int) := by omega
          have q1n := hlt
          have q0 : 0 ≤ (k : Int) := by omega
          have hxk := run_strIx l k hlt
          have HT := Lib.hid (show l.take (k + 1) = l.take k ++ [l[k]] from List.take_succ_eq_append_getElem hlt)
          have HM := Lib.hid (show l[k] ∈ l from List.getElem_mem hlt)
          have HV := Lib.hid (wnV_small HA.out (by rw [List.length_take]; omega))
          have HVE := Lib.hid (show ∀ c, wnV (l.take k ++ [c]) = 10 * wnV (l.take k) + (c.toNat - 48) from fun c => wnV_snoc _ _)
          obtain ⟨d, hd⟩ : ∃ d, l[k] = d := ⟨_, rfl⟩
          rw [hd] at hxk HT HM
          obtain ⟨v, hv⟩ : ∃ v, wnV (l.take k) = v := ⟨_, rfl⟩
          rw [hv] at HV HVE ⊢
          have hvb : v < 10000000000 := HV.out
          clear hd hv
          by_cases h4 : d.toNat < 48
          · have r5 : (d.toNat : Int) < 48 := by omega
            have HR := Lib.hid (show wnB l = (0, false) from wnB_no fun h => by
              have h9 := List.all_eq_true.1 h.2 d HM.out
              unfold digB at h9
              simp only [Bool.and_eq_true, decide_eq_true_eq] at h9
              omega)
            clear hk
            go_wp2
            go_ret2
            exact ⟨by rw [HR.out]; rfl, rfl⟩
          · have r5 : ¬ (d.toNat : Int) < 48 := by omega
            by_cases h6 : 57 < d.toNat
            · have r6 : (57 : Int) < (d.toNat : Int) := by omega
              have HR := Lib.hid (show wnB l = (0, false) from wnB_no fun h => by
                have h9 := List.all_eq_true.1 h.2 d HM.out
                unfold digB at h9
                simp only [Bool.and_eq_true, decide_eq_true_eq] at h9
                omega)
              clear hk
              go_wp2
              go_ret2
              exact ⟨by rw [HR.out]; rfl, rfl⟩
            · have r6 : ¬ (57 : Int) < (d.toNat : Int) := by omega
              have HA2 := Lib.hid (show (l.take (k + 1)).all digB = true from by
                rw [HT.out, List.all_append, HA.out]
                simp only [List.all_cons, List.all_nil, Bool.and_true, Bool.true_and]
                unfold digB
                rw [decide_eq_true (by omega), decide_eq_true (by omega)]; rfl)
              have HLT := Lib.hid hlt
              have HD := Lib.hid (show 48 ≤ d.toNat ∧ d.toNat ≤ 57 by omega)
              have w1 : IntKind.i64.wrap (10 * (v : Int)) = 10 * (v : Int) := IntWalk.i64_in _ (by omega)
              have w2 : IntKind.u8.wrap ((d.toNat : Int) - 48) = (d.toNat : Int) - 48 := IntWalk.u8_in _ (by omega)
              have w3 : IntKind.i64.wrap ((d.toNat : Int) - 48) = (d.toNat : Int) - 48 := IntWalk.i64_in _ (by omega)
              have w4 : IntKind.i64.wrap (10 * (v : Int) + ((d.toNat : Int) - 48)) = 10 * (v : Int) + ((d.toNat : Int) - 48) := IntWalk.i64_in _ (by omega)
              clear h4 h6 hk hlt
              go_wp2
              exact ⟨⟨k + 1, HLT.out, by go_num, by rw [HT.out, HVE.out]; congr 1; have := HD.out; omega, HA2.out, by first | rfl | trivial⟩, by have := HLT.out; simp [intOf]; omega⟩
        · have q1 : ¬ (k : Int) < (l.length : Int) := by omega
          have q1n := hlt
          obtain rfl : k = l.length := by omega
          rw [List.take_length] at HA ⊢
          have HR := Lib.hid (wnB_yes HF.out HA.out)
          clear hk hlt
          go_wp2
          go_ret2
          exact ⟨by rw [HR.out]; rfl, rfl⟩
  · have r3 : ¬ (c.toNat : Int) = 48 := by omega
    have HF := Lib.hid (HF.out fun h => h3 h.1)
    go_wp2
    clear hx0 r3 h3 HR0
    go_loopw [4, 5] (fun nv iv wr => ∃ k : Nat, k ≤ l.length ∧ iv = .int .i64 (k : Int) ∧ nv = .int .i64 (wnV (l.take k) : Int) ∧ (l.take k).all digB = true ∧ w = wr) (fun _ iv _ => l.length - (intOf iv).toNat)
    case atStart => exact ⟨0, Nat.zero_le _, rfl, rfl, by simp, rfl⟩
    case round =>
      obtain ⟨k, hk, rfl, rfl, hall, rfl⟩ := hrel
      have HA := Lib.hid hall
      have hk9 : k ≤ 10 := by omega
      clear hall
      by_cases hlt : k < l.length
      · have q1 : (k : Int) < (l.length : Int) := by omega
        have q1n := hlt
        have q0 : 0 ≤ (k : Int) := by omega
        have hxk := run_strIx l k hlt
        have HT := Lib.hid (show l.take (k + 1) = l.take k ++ [l[k]] from List.take_succ_eq_append_getElem hlt)
        have HM := Lib.hid (show l[k] ∈ l from List.getElem_mem hlt)
        have HV := Lib.hid (wnV_small HA.out (by rw [List.length_take]; omega))
        have HVE := Lib.hid (show ∀ c, wnV (l.take k ++ [c]) = 10 * wnV (l.take k) + (c.toNat - 48) from fun c => wnV_snoc _ _)
        obtain ⟨d, hd⟩ : ∃ d, l[k] = d := ⟨_, rfl⟩
        rw [hd] at hxk HT HM
        obtain ⟨v, hv⟩ : ∃ v, wnV (l.take k) = v := ⟨_, rfl⟩
        rw [hv] at HV HVE ⊢
        have hvb : v < 10000000000 := HV.out
        clear hd hv
        by_cases h4 : d.toNat < 48
        · have r5 : (d.toNat : Int) < 48 := by omega
          have HR := Lib.hid (show wnB l = (0, false) from wnB_no fun h => by
            have h9 := List.all_eq_true.1 h.2 d HM.out
            unfold digB at h9
            simp only [Bool.and_eq_true, decide_eq_true_eq] at h9
            omega)
          clear hk
          go_wp2
          go_ret2
          exact ⟨by rw [HR.out]; rfl, rfl⟩
        · have r5 : ¬ (d.toNat : Int) < 48 := by omega
          by_cases h6 : 57 < d.toNat
          · have r6 : (57 : Int) < (d.toNat : Int) := by omega
            have HR := Lib.hid (show wnB l = (0, false) from wnB_no fun h => by
              have h9 := List.all_eq_true.1 h.2 d HM.out
              unfold digB at h9
              simp only [Bool.and_eq_true, decide_eq_true_eq] at h9
              omega)
            clear hk
            go_wp2
            go_ret2
            exact ⟨by rw [HR.out]; rfl, rfl⟩
          · have r6 : ¬ (57 : Int) < (d.toNat : Int) := by omega
            have HA2 := Lib.hid (show (l.take (k + 1)).all digB = true from by
              rw [HT.out, List.all_append, HA.out]
              simp only [List.all_cons, List.all_nil, Bool.and_true, Bool.true_and]
              unfold digB
              rw [decide_eq_true (by omega), decide_eq_true (by omega)]; rfl)
            have HLT := Lib.hid hlt
            have HD := Lib.hid (show 48 ≤ d.toNat ∧ d.toNat ≤ 57 by omega)
            have w1 : IntKind.i64.wrap (10 * (v : Int)) = 10 * (v : Int) := IntWalk.i64_in _ (by omega)
            have w2 : IntKind.u8.wrap ((d.toNat : Int) - 48) = (d.toNat : Int) - 48 := IntWalk.u8_in _ (by omega)
            have w3 : IntKind.i64.wrap ((d.toNat : Int) - 48) = (d.toNat : Int) - 48 := IntWalk.i64_in _ (by omega)
            have w4 : IntKind.i64.wrap (10 * (v : Int) + ((d.toNat : Int) - 48)) = 10 * (v : Int) + ((d.toNat : Int) - 48) := IntWalk.i64_in _ (by omega)
            clear h4 h6 hk hlt
            go_wp2
            exact ⟨⟨k + 1, HLT.out, by go_num, by rw [HT.out, HVE.out]; congr 1; have := HD.out; omega, HA2.out, by first | rfl | trivial⟩, by have := HLT.out; simp [intOf]; omega⟩
      · have q1 : ¬ (k : Int) < (l.length : Int) := by omega
        have q1n := hlt
        obtain rfl : k = l.length := by omega
        rw [List.take_length] at HA ⊢
        have HR := Lib.hid (wnB_yes HF.out HA.out)
        clear hk hlt
        go_wp2
        go_ret2
        exact ⟨by rw [HR.out]; rfl, rfl⟩
set_option maxRecDepth 100000 in
set_option maxHeartbeats 4000000 in
theorem wnum_any (l : W) (w : World) (hl : l.length ≤ 1000000) : Calls Tryz.prog 15 #[strV l] w fun e w' => e = .returned (.tuple #[.int .i64 (wnB l).1, .bool (wnB l).2]) ∧ w = w' := by
  by_cases h1 : l.length < 1
  · have r1 : (l.length : Int) < 1 := by omega
    have HR := Lib.hid (show wnB l = (0, false) from wnB_no fun h => by have := h.1; unfold wnF at this; simp at this; omega)
    go_enter Tryz.func15, Tryz.ntmps15
    go_wp2
    go_ret2
    exact ⟨by rw [HR.out]; rfl, rfl⟩
  have r1 : ¬ (l.length : Int) < 1 := by omega
  have r1n : ¬ l.length < 1 := h1
  by_cases h2 : 10 < l.length
  · have r2 : (10 : Int) < (l.length : Int) := by omega
    have HR := Lib.hid (show wnB l = (0, false) from wnB_no fun h => by have := h.1; unfold wnF at this; simp at this; omega)
    go_enter Tryz.func15, Tryz.ntmps15
    go_wp2
    go_ret2
    exact ⟨by rw [HR.out]; rfl, rfl⟩
  have r2 : ¬ (10 : Int) < (l.length : Int) := by omega
  have r2n : ¬ 10 < l.length := h2
  have hx0 := run_strIx l 0 (by omega)
  rw [show ((0 : Nat) : Int) = 0 from rfl] at hx0
  have HC0 := Lib.hid (show l.getD 0 0 = l[0]'(by omega) from by simp [List.getD, show 0 < l.length by omega])
  obtain ⟨c, hc⟩ : ∃ c, l[0]'(by omega) = c := ⟨_, rfl⟩
  rw [hc] at hx0 HC0
  clear hc
  have HF := Lib.hid (show ¬ (c.toNat = 48 ∧ 1 < l.length) → wnF l = true from fun h3 => by
    unfold wnF
    simp only [Bool.and_eq_true, Bool.or_eq_true, decide_eq_true_eq]
    refine ⟨by omega, by omega, ?_⟩
    by_cases h5 : 1 < l.length
    · left
      rw [HC0.out]
      intro e
      exact h3 ⟨by rw [e]; rfl, h5⟩
    · right; omega)
  have HR0 := Lib.hid (show c.toNat = 48 ∧ 1 < l.length → wnB l = (0, false) from fun h3 => wnB_no fun h => by
    have h9 := h.1
    unfold wnF at h9
    simp only [Bool.and_eq_true, Bool.or_eq_true, decide_eq_true_eq] at h9
    rcases h9.2.2 with h8 | h8
    · rw [HC0.out] at h8
      exact h8 (UInt8.toNat_inj.1 h3.1)
    · omega)
  clear h1 h2 HC0
  go_enter Tryz.func15, Tryz.ntmps15
  by_cases h3 : c.toNat = 48
  · have r3 : (c.toNat : Int) = 48 := by omega
    by_cases h4 : 1 < l.length
    · have r4 : (1 : Int) < (l.length : Int) := by omega
      have HR := Lib.hid (HR0.out ⟨h3, h4⟩)
      go_wp2
      go_ret2
      exact ⟨by rw [HR.out]; rfl, rfl⟩
    · have r4 : ¬ (1 : Int) < (l.length : Int) := by omega
      have HF := Lib.hid (HF.out fun h => h4 h.2)
      go_wp2
      clear hx0 r3 r4 h3 HR0
      go_loopw [4, 27] (fun nv iv wr => ∃ k : Nat, k ≤ l.length ∧ iv = .int .i64 (k : Int) ∧ nv = .int .i64 (wnV (l.take k) : Int) ∧ (l.take k).all digB = true ∧ w = wr) (fun _ iv _ => l.length - (intOf iv).toNat)
      case atStart => exact ⟨0, Nat.zero_le _, rfl, rfl, by simp, rfl⟩
      case round =>
        obtain ⟨k, hk, rfl, rfl, hall, rfl⟩ := hrel
        have HA := Lib.hid hall
        have hk9 : k ≤ 10 := by omega
        clear hall
        by_cases hlt : k < l.length
        · have q1 : (k : Int) < (l.length : Int) := by omega
          have q1n := hlt
          have q0 : 0 ≤ (k : Int) := by omega
          have hxk := run_strIx l k hlt
          have HT := Lib.hid (show l.take (k + 1) = l.take k ++ [l[k]] from List.take_succ_eq_append_getElem hlt)
          have HM := Lib.hid (show l[k] ∈ l from List.getElem_mem hlt)
          have HV := Lib.hid (wnV_small HA.out (by rw [List.length_take]; omega))
          have HVE := Lib.hid (show ∀ c, wnV (l.take k ++ [c]) = 10 * wnV (l.take k) + (c.toNat - 48) from fun c => wnV_snoc _ _)
          obtain ⟨d, hd⟩ : ∃ d, l[k] = d := ⟨_, rfl⟩
          rw [hd] at hxk HT HM
          obtain ⟨v, hv⟩ : ∃ v, wnV (l.take k) = v := ⟨_, rfl⟩
          rw [hv] at HV HVE ⊢
          have hvb : v < 10000000000 := HV.out
          clear hd hv
          by_cases h4 : d.toNat < 48
          · have r5 : (d.toNat : Int) < 48 := by omega
            have HR := Lib.hid (show wnB l = (0, false) from wnB_no fun h => by
              have h9 := List.all_eq_true.1 h.2 d HM.out
              unfold digB at h9
              simp only [Bool.and_eq_true, decide_eq_true_eq] at h9
              omega)
            clear hk
            go_wp2
            go_ret2
            exact ⟨by rw [HR.out]; rfl, rfl⟩
          · have r5 : ¬ (d.toNat : Int) < 48 := by omega
            by_cases h6 : 57 < d.toNat
            · have r6 : (57 : Int) < (d.toNat : Int) := by omega
              have HR := Lib.hid (show wnB l = (0, false) from wnB_no fun h => by
                have h9 := List.all_eq_true.1 h.2 d HM.out
                unfold digB at h9
                simp only [Bool.and_eq_true, decide_eq_true_eq] at h9
                omega)
              clear hk
              go_wp2
              go_ret2
              exact ⟨by rw [HR.out]; rfl, rfl⟩
            · have r6 : ¬ (57 : Int) < (d.toNat : Int) := by omega
              have HA2 := Lib.hid (show (l.take (k + 1)).all digB = true from by
                rw [HT.out, List.all_append, HA.out]
                simp only [List.all_cons, List.all_nil, Bool.and_true, Bool.true_and]
                unfold digB
                rw [decide_eq_true (by omega), decide_eq_true (by omega)]; rfl)
              have HLT := Lib.hid hlt
              have HD := Lib.hid (show 48 ≤ d.toNat ∧ d.toNat ≤ 57 by omega)
              have w1 : IntKind.i64.wrap (10 * (v : Int)) = 10 * (v : Int) := IntWalk.i64_in _ (by omega)
              have w2 : IntKind.u8.wrap ((d.toNat : Int) - 48) = (d.toNat : Int) - 48 := IntWalk.u8_in _ (by omega)
              have w3 : IntKind.i64.wrap ((d.toNat : Int) - 48) = (d.toNat : Int) - 48 := IntWalk.i64_in _ (by omega)
              have w4 : IntKind.i64.wrap (10 * (v : Int) + ((d.toNat : Int) - 48)) = 10 * (v : Int) + ((d.toNat : Int) - 48) := IntWalk.i64_in _ (by omega)
              clear h4 h6 hk hlt
              go_wp2
              exact ⟨⟨k + 1, HLT.out, by go_num, by rw [HT.out, HVE.out]; congr 1; have := HD.out; omega, HA2.out, by first | rfl | trivial⟩, by have := HLT.out; simp [intOf]; omega⟩
        · have q1 : ¬ (k : Int) < (l.length : Int) := by omega
          have q1n := hlt
          obtain rfl : k = l.length := by omega
          rw [List.take_length] at HA ⊢
          have HR := Lib.hid (wnB_yes HF.out HA.out)
          clear hk hlt
          go_wp2
          go_ret2
          exact ⟨by rw [HR.out]; rfl, rfl⟩
  · have r3 : ¬ (c.toNat : Int) = 48 := by omega
    have HF := Lib.hid (HF.out fun h => h3 h.1)
    go_wp2
    clear hx0 r3 h3 HR0
    go_loopw [4, 27] (fun nv iv wr => ∃ k : Nat, k ≤ l.length ∧ iv = .int .i64 (k : Int) ∧ nv = .int .i64 (wnV (l.take k) : Int) ∧ (l.take k).all digB = true ∧ w = wr) (fun _ iv _ => l.length - (intOf iv).toNat)
    case atStart => exact ⟨0, Nat.zero_le _, rfl, rfl, by simp, rfl⟩
    case round =>
      obtain ⟨k, hk, rfl, rfl, hall, rfl⟩ := hrel
      have HA := Lib.hid hall
      have hk9 : k ≤ 10 := by omega
      clear hall
      by_cases hlt : k < l.length
      · have q1 : (k : Int) < (l.length : Int) := by omega
        have q1n := hlt
        have q0 : 0 ≤ (k : Int) := by omega
        have hxk := run_strIx l k hlt
        have HT := Lib.hid (show l.take (k + 1) = l.take k ++ [l[k]] from List.take_succ_eq_append_getElem hlt)
        have HM := Lib.hid (show l[k] ∈ l from List.getElem_mem hlt)
        have HV := Lib.hid (wnV_small HA.out (by rw [List.length_take]; omega))
        have HVE := Lib.hid (show ∀ c, wnV (l.take k ++ [c]) = 10 * wnV (l.take k) + (c.toNat - 48) from fun c => wnV_snoc _ _)
        obtain ⟨d, hd⟩ : ∃ d, l[k] = d := ⟨_, rfl⟩
        rw [hd] at hxk HT HM
        obtain ⟨v, hv⟩ : ∃ v, wnV (l.take k) = v := ⟨_, rfl⟩
        rw [hv] at HV HVE ⊢
        have hvb : v < 10000000000 := HV.out
        clear hd hv
        by_cases h4 : d.toNat < 48
        · have r5 : (d.toNat : Int) < 48 := by omega
          have HR := Lib.hid (show wnB l = (0, false) from wnB_no fun h => by
            have h9 := List.all_eq_true.1 h.2 d HM.out
            unfold digB at h9
            simp only [Bool.and_eq_true, decide_eq_true_eq] at h9
            omega)
          clear hk
          go_wp2
          go_ret2
          exact ⟨by rw [HR.out]; rfl, rfl⟩
        · have r5 : ¬ (d.toNat : Int) < 48 := by omega
          by_cases h6 : 57 < d.toNat
          · have r6 : (57 : Int) < (d.toNat : Int) := by omega
            have HR := Lib.hid (show wnB l = (0, false) from wnB_no fun h => by
              have h9 := List.all_eq_true.1 h.2 d HM.out
              unfold digB at h9
              simp only [Bool.and_eq_true, decide_eq_true_eq] at h9
              omega)
            clear hk
            go_wp2
            go_ret2
            exact ⟨by rw [HR.out]; rfl, rfl⟩
          · have r6 : ¬ (57 : Int) < (d.toNat : Int) := by omega
            have HA2 := Lib.hid (show (l.take (k + 1)).all digB = true from by
              rw [HT.out, List.all_append, HA.out]
              simp only [List.all_cons, List.all_nil, Bool.and_true, Bool.true_and]
              unfold digB
              rw [decide_eq_true (by omega), decide_eq_true (by omega)]; rfl)
            have HLT := Lib.hid hlt
            have HD := Lib.hid (show 48 ≤ d.toNat ∧ d.toNat ≤ 57 by omega)
            have w1 : IntKind.i64.wrap (10 * (v : Int)) = 10 * (v : Int) := IntWalk.i64_in _ (by omega)
            have w2 : IntKind.u8.wrap ((d.toNat : Int) - 48) = (d.toNat : Int) - 48 := IntWalk.u8_in _ (by omega)
            have w3 : IntKind.i64.wrap ((d.toNat : Int) - 48) = (d.toNat : Int) - 48 := IntWalk.i64_in _ (by omega)
            have w4 : IntKind.i64.wrap (10 * (v : Int) + ((d.toNat : Int) - 48)) = 10 * (v : Int) + ((d.toNat : Int) - 48) := IntWalk.i64_in _ (by omega)
            clear h4 h6 hk hlt
            go_wp2
            exact ⟨⟨k + 1, HLT.out, by go_num, by rw [HT.out, HVE.out]; congr 1; have := HD.out; omega, HA2.out, by first | rfl | trivial⟩, by have := HLT.out; simp [intOf]; omega⟩
      · have q1 : ¬ (k : Int) < (l.length : Int) := by omega
        have q1n := hlt
        obtain rfl : k = l.length := by omega
        rw [List.take_length] at HA ⊢
        have HR := Lib.hid (wnB_yes HF.out HA.out)
        clear hk hlt
        go_wp2
        go_ret2
        exact ⟨by rw [HR.out]; rfl, rfl⟩
end Go.Proofs.YtpmgmiiidfconaaGreatDoor
