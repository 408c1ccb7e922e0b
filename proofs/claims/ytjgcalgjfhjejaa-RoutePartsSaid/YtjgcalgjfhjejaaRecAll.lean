/-
  Some bags: what is wrong with one of them; all together.
-/
import Derived.Test.YtjgcalgjfhjejaaRecSort
import Derived.Test.YtjgcalgjfhjejaaRowE
namespace Go.Ox.Rec
/-- what is wrong with the first one that may not be -/
def allP : List (List R) → Int
  | [] => 0
  | l :: ls => if may l = 0 then allP ls else may l
theorem allP_ok {l : List R} {ls : List (List R)} (h : may l = 0) : allP (l :: ls) = allP ls := if_pos h
theorem allP_bad {l : List R} {ls : List (List R)} (h : may l ≠ 0) : allP (l :: ls) = may l := if_neg h
/-- what is given where the bags may be, nothing elsewhere -/
def when0 {α : Type} (e : Int) (l : List α) : List α := if e = 0 then l else []
theorem when0_ok {α : Type} {e : Int} {l : List α} (h : e = 0) : when0 e l = l := if_pos h
theorem when0_no {α : Type} {e : Int} {l : List α} (h : e ≠ 0) : when0 e l = [] := if_neg h
end Go.Ox.Rec
namespace Go.Proofs.Ytjgcalgjfhjejaa
open Go.RowKit Go.Ox Go.Shelf
attribute [local irreducible] OP RP
set_option linter.unusedVariables false
set_option linter.unusedSimpArgs false

/-- a slice of slices of records -/
abbrev RRS (w : World) (v : Value) (ls : List (List Rec.R)) : Prop := RV RP w v ls
theorem RRS.extE {w w' : World} {v : Value} {ls : List (List Rec.R)} (h : RRS w v ls) (he : Ext w w') : RRS w' v ls := h.ext (fun _ _ q => q.ext he) he

set_option maxRecDepth 100000 in
set_option maxHeartbeats 1000000 in
theorem growM_nil (n : Nat) (w : World) (hn : n ≤ 1099511627776) :
    Calls Try.prog 31 #[.slice none 0 0, .int .i64 n] w fun e w' => ∃ v, e = .returned v ∧ OP 42 w.heap.size w' v [] ∧ Ext w w' := by
  by_cases h0 : 0 < n
  · obtain ⟨i, hi, hz, hs, hb⟩ := elemM.info
    have happ := Go.Lib.run_append_nil_zeros (P := Try.prog) w 22 3 22 42 i (.agg #[.int .i64 0, .int .i64 0]) .i64 .i64 Try.underlying22 Try.underlying3 hi hz n h0 (by omega) (by omega) (by rw [hb]; omega)
    have HA := Lib.hid happ
    have hmade := World.ownsRow_made (base := w.heap.size) (e := 42) (size := 2) w.drew (Builtin.zeroCells (Value.agg #[.int .i64 0, .int .i64 0]).cells n ++ Builtin.zeroCells (Value.agg #[.int .i64 0, .int .i64 0]).cells (grownCap w n 0 42 - n)) (grownCap w n 0 42) (Nat.le_refl _)
      (grownCap_le_maxLen _ _ _ _ (by unfold maxLen; omega)) (by
        have := grownCap_ge w n 0 42
        rw [Array.size_append, size_zeroCells, size_zeroCells]
        simp [Value.cells]; omega)
    have HM := Lib.hid hmade
    clear happ hmade hz hs hb hi
    have hn0 : (0 : Int) < (n : Int) := by omega
    go_enter Try.func31, Try.ntmps31
    go_wp2_with (at_builtin; refine Go.Lib.wpList_append_run _ rfl (.tmp 20) (.tmp 21) 22 3 rfl (.slice none 0 0) (.int .i64 n) rfl rfl _ _ HA.out ?_; generalize Builtin.zeroCells (Value.agg #[.int .i64 0, .int .i64 0]).cells n ++ Builtin.zeroCells (Value.agg #[.int .i64 0, .int .i64 0]).cells (grownCap w n 0 42 - n) = cs at *; generalize grownCap w n 0 42 = cp at *)
    go_ret
    exact ⟨_, rfl, OE.op HM.out, (Ext.refl _).drew.alloc _⟩
  · obtain rfl : n = 0 := by omega
    go_enter Try.func31, Try.ntmps31
    go_wp2
    go_ret
    exact ⟨_, rfl, OP.nilS _ _ _, Ext.refl _⟩

set_option maxRecDepth 100000 in
set_option maxHeartbeats 1000000 in
theorem concatM_any (v : Value) (ls : List (List Rec.R)) (w : World) (hv : RRS w v ls) (hl : ls.flatten.length ≤ 1000000000) :
    Calls Try.prog 23 #[v] w fun e w' => ∃ v', e = .returned v' ∧ OP 42 w.heap.size w' v' ls.flatten ∧ Ext w w' := by
  obtain ⟨A, c, rfl⟩ := hv.form
  have HV := Lib.hid hv
  have hm9 := hv.len_le
  unfold maxLen at hm9
  clear hv
  go_enter Try.func23, Try.ntmps23
  go_wp2
  go_loop [3, 5, 11] (fun z _ i => ∃ k : Nat, k ≤ ls.length ∧ i = .int .i64 k ∧ z = .int .i64 ((ls.take k).flatten.length : Nat)) (fun _ _ i => ls.length - (intOf i).toNat)
  case atStart => exact ⟨0, Nat.zero_le _, rfl, rfl⟩
  case round =>
    obtain ⟨k, hk, rfl, rfl⟩ := hrel
    have hfl := flat_leV ls k
    by_cases hlt : k < ls.length
    · obtain ⟨bA, oA, u, rfl, c0, hu⟩ := HV.out.at_ hlt
      obtain ⟨A1, c1, rfl⟩ := hu.form
      have hsn := congrArg List.length (flat_snocV ls hlt)
      rw [List.length_append] at hsn
      have hfl2 := flat_leV ls (k + 1)
      have HS := Lib.hid hsn
      have hsn2 : (ls.take k).flatten.length + ls[k].length ≤ 1099511627776 := by omega
      have hk0 : (k : Int) < (ls.length : Int) := by omega
      clear hsn hu
      generalize (ls.take k).flatten.length = z at *
      go_wp2
      go_round
      case rel => exact ⟨k + 1, by omega, by go_num, by rw [HS.out]; go_num⟩
      case measure => simp [intOf]; omega
    · obtain rfl : k = ls.length := by omega
      rw [List.take_length] at *
      clear hfl
      have HG := Lib.hid (growM_nil ls.flatten.length w (by omega))
      obtain ⟨z, hz⟩ : ∃ z, ls.flatten.length = z := ⟨_, rfl⟩
      rw [hz] at HG hl ⊢
      have HZ := Lib.hid hz
      clear hz
      go_wp2_with fail
      refine HG.out.mono ?_
      rintro e w1 ⟨v1, rfl, ho1, he1⟩
      have HO1 := Lib.hid ho1
      obtain ⟨A1, c1, rfl⟩ := ho1.rp.form
      clear ho1
      go_wp2
      go_loopw [6, 8, 27] (fun y _ i wr => ∃ (k : Nat) (l' : List Rec.R), k ≤ ls.length ∧ i = .int .i64 k ∧ l' = (ls.take k).flatten ∧ OP 42 w.heap.size wr y l' ∧ Ext w wr) (fun _ _ i _ => ls.length - (intOf i).toNat)
      case atStart => exact ⟨0, [], Nat.zero_le _, rfl, rfl, HO1.out, he1⟩
      case round =>
        obtain ⟨k, l', hk, rfl, hl', hown, hext⟩ := hrel
        have HL' := Lib.hid hl'
        have hfl := flat_leV ls k
        rw [← hl', HZ.out] at hfl
        have HO := Lib.hid hown
        have HE := Lib.hid hext
        clear hl' hown
        by_cases hlt : k < ls.length
        · obtain ⟨bA, oA, u, rfl, c0, hu⟩ := (HV.out.extE hext).at_ hlt
          have hsn := flat_snocV ls hlt
          have hfl2 := flat_leV ls (k + 1)
          rw [hsn, ← HL'.out, List.length_append, HZ.out] at hfl2
          rw [← HL'.out] at hsn
          have HS := Lib.hid hsn
          have HR := Lib.hid hu
          obtain ⟨A9, c9, rfl⟩ := hu.form
          have hk0 : (k : Int) < (ls.length : Int) := by omega
          obtain ⟨AO, cO, rfl⟩ := HO.out.rp.form
          clear hsn hu hext
          generalize ls[k] = lk at *
          have HFB := Lib.hid (show l'.length + lk.length ≤ 1000000000 by omega)
          go_wp2_with (at_builtin; refine wpList_app rfl elemM _ _ _ rfl w.heap.size _ l'.length _ rfl HO.out.own _ lk.length _ rfl HR.out.rd (one_pV _) (by have := HFB.out; omega) (by have := HFB.out; unfold maxLen; omega) HE.out.size ?_; intro v' w' ha)
          exact ⟨⟨k + 1, l' ++ lk, by omega, by go_num, HS.out.symm, OP.app ha.own, ha.ext HE.out rfl HO.out.own⟩, by simp [intOf]; omega⟩
        · obtain rfl : k = ls.length := by omega
          have hk0 : ¬ (ls.length : Int) < (ls.length : Int) := by omega
          rw [List.take_length] at HL'
          obtain ⟨AO, cO, rfl⟩ := HO.out.rp.form
          clear hext
          go_wp2
          go_ret
          exact ⟨_, rfl, by rw [← HL'.out]; exact HO.out, HE.out⟩

theorem RRS.two {w : World} {v1 v2 : Value} {l1 l2 : List Rec.R} (h1 : RP w v1 l1) (h2 : RP w v2 l2) (E : Nat) : RRS (w.alloc (.cells #[v1, v2] E)) (.slice (some ⟨w.heap.size, 0, none⟩) 2 2) [l1, l2] :=
  RV.lit2 E (h1.ext ((Ext.refl _).alloc _)) (h2.ext ((Ext.refl _).alloc _))
open Go.Ox.Rec (when0 when0_ok when0_no)
theorem sort_all (v : Value) (l : List Rec.R) (w : World) (hv : RP w v l) (hl : l.length ≤ 1000000) :
    Calls Try.prog 19 #[v] w fun e w' => ∃ u, e = .returned (.tuple #[u, .int .i64 (Rec.may l)]) ∧ RP w' u (when0 (Rec.may l) (Rec.srt l)) ∧ Ext w w' := by
  by_cases h : Rec.may l = 0
  · rw [when0_ok h, h]
    exact (sort_ok v l w hv hl h).mono fun _ _ ⟨u, h1, h2, h3⟩ => ⟨u, h1, h2.rp, h3⟩
  · rw [when0_no h]
    exact (sort_err v l w hv hl h).mono fun _ _ ⟨h1, h3⟩ => ⟨_, h1, RP.nilS _, h3⟩
end Go.Proofs.Ytjgcalgjfhjejaa
