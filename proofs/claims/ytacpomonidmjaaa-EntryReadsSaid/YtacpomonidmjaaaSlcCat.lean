/-
  The library's slices functions at bytes: Grow, Concat.
-/
import Derived.Test.YtacpomonidmjaaaSlcB
namespace Go.Proofs.Ytacpomonidmjaaa
open Go.RowKit Go.Ox

set_option maxRecDepth 100000 in
set_option maxHeartbeats 400000 in
theorem grow_nil (n : Nat) (w : World) (hn : n ≤ 1099511627776) :
    Calls Try.prog 89 #[.slice none 0 0, .int .i64 n] w fun e w' => ∃ v, e = .returned v ∧ w'.ownsRow w.heap.size 5 1 v 0 [] ∧ Ext w w' := by
  by_cases h0 : 0 < n
  · obtain ⟨i, hi, hz, hs, hb⟩ := elemB.info
    have happ := Go.Lib.run_append_nil_zeros (P := Try.prog) w 38 3 38 5 i (.int .u8 0) .i64 .i64 Try.underlying38 Try.underlying3 hi hz n h0 (by omega) (by omega) (by rw [hb]; omega)
    have HA := Lib.hid happ
    have hmade := World.ownsRow_made (base := w.heap.size) (e := 5) (size := 1) w.drew (Builtin.zeroCells (Value.int .u8 0).cells n ++ Builtin.zeroCells (Value.int .u8 0).cells (grownCap w n 0 5 - n)) (grownCap w n 0 5) (Nat.le_refl _)
      (grownCap_le_maxLen _ _ _ _ (by unfold maxLen; omega)) (by
        have := grownCap_ge w n 0 5
        rw [Array.size_append, size_zeroCells, size_zeroCells]
        simp [Value.cells]; omega)
    have HM := Lib.hid hmade
    clear happ hmade hz hs hb hi
    have hn0 : (0 : Int) < (n : Int) := by omega
    go_enter Try.func89, Try.ntmps89
    go_wp2_with (at_builtin; refine Go.Lib.wpList_append_run _ rfl (.tmp 20) (.tmp 21) 38 3 rfl (.slice none 0 0) (.int .i64 n) rfl rfl _ _ HA.out ?_; generalize Builtin.zeroCells (Value.int .u8 0).cells n ++ Builtin.zeroCells (Value.int .u8 0).cells (grownCap w n 0 5 - n) = cs at *; generalize grownCap w n 0 5 = cp at *)
    go_ret
    exact ⟨_, rfl, HM.out, (Ext.refl _).drew.alloc _⟩
  · obtain rfl : n = 0 := by omega
    go_enter Try.func89, Try.ntmps89
    go_wp2
    go_ret
    exact ⟨_, rfl, World.ownsRow_nil _ _ _ _, Ext.refl _⟩

/-- the slice v reads as slices of bytes -/
structure RBs (w : World) (v : Value) (ls : List (List UInt8)) : Prop where
  ex : ∃ vs : List Value, Rd w 1 v ls.length vs ∧ ∀ (k : Nat) (hk : k < ls.length), ∃ u, vs[k]? = some u ∧ RB w u ls[k]

theorem RBs.lit2 {w : World} {v1 v2 : Value} {l1 l2 : List UInt8} (E : Nat) (h1 : RB w v1 l1) (h2 : RB w v2 l2) : RBs (w.alloc (.cells #[v1, v2] E)) (.slice (some ⟨w.heap.size, 0, none⟩) 2 2) [l1, l2] := by
  refine ⟨[v1, v2], Rd.lit w #[v1, v2] E 2 rfl (by unfold maxLen; omega), fun k hk => ?_⟩
  match k, hk with
  | 0, _ => exact ⟨v1, rfl, h1.ext ((Ext.refl _).alloc _)⟩
  | 1, _ => exact ⟨v2, rfl, h2.ext ((Ext.refl _).alloc _)⟩
theorem flat_snoc {α : Type} (ls : List (List α)) {k : Nat} (h : k < ls.length) : (ls.take (k + 1)).flatten = (ls.take k).flatten ++ ls[k] := by
  rw [List.take_succ_eq_append_getElem h, List.flatten_append]; simp
theorem flat_le {α : Type} (ls : List (List α)) (k : Nat) : (ls.take k).flatten.length ≤ ls.flatten.length := by
  conv => rhs; rw [← List.take_append_drop k ls]
  rw [List.flatten_append, List.length_append]; omega

set_option maxRecDepth 100000 in
set_option maxHeartbeats 1000000 in
theorem concat_any (v : Value) (ls : List (List UInt8)) (w : World) (hb : RBs w v ls) (hl : ls.flatten.length ≤ 1099511627776) :
    Calls Try.prog 66 #[v] w fun e w' => ∃ v', e = .returned v' ∧ OB 5 w.heap.size w' v' ls.flatten ∧ Ext w w' := by
  obtain ⟨vs, ⟨A, c, rfl, hrd⟩, hat⟩ := hb
  have HAT := Lib.hid hat
  clear hat
  have hn := hrd.nc
  have hm := hrd.cm
  unfold maxLen at hm
  go_enter Try.func66, Try.ntmps66
  go_wp2
  go_loop [3, 5, 11] (fun z _ i => ∃ k : Nat, k ≤ ls.length ∧ i = .int .i64 k ∧ z = .int .i64 ((ls.take k).flatten.length : Nat)) (fun _ _ i => ls.length - (intOf i).toNat)
  case atStart => exact ⟨0, Nat.zero_le _, rfl, rfl⟩
  case round =>
    obtain ⟨k, hk, rfl, rfl⟩ := hrel
    have hfl := flat_le ls k
    by_cases hlt : k < ls.length
    · obtain ⟨b, o, rfl⟩ := hrd.addr (by omega)
      obtain ⟨u, hu, ⟨A', c', rfl, hr'⟩⟩ := HAT.out k hlt
      have hcell := hrd.get hu
      have hsn := congrArg List.length (flat_snoc ls hlt)
      rw [List.length_append] at hsn
      have hfl2 := flat_le ls (k + 1)
      have HS := Lib.hid hsn
      have hsn2 : (ls.take k).flatten.length + ls[k].length ≤ 1099511627776 := by omega
      clear hsn hu
      have hk0 : (k : Int) < (ls.length : Int) := by omega
      generalize (ls.take k).flatten.length = z at *
      go_wp2
      go_round
      case rel => exact ⟨k + 1, by omega, by go_num, by rw [HS.out]; go_num⟩
      case measure => simp [intOf]; omega
    · obtain rfl : k = ls.length := by omega
      rw [List.take_length] at *
      clear hfl
      have hG := grow_nil ls.flatten.length w hl
      generalize hz : ls.flatten.length = z at *
      have HZ := Lib.hid hz
      have HG := Lib.hid hG
      clear hG hz
      go_wp2_with (go_at_call 89; refine HG.out.mono ?_; rintro e w1 ⟨v1, rfl, ho1, he1⟩)
      go_loopw [6, 8, 27] (fun y _ i wr => ∃ (k : Nat) (l' : List UInt8), k ≤ ls.length ∧ i = .int .i64 k ∧ l' = (ls.take k).flatten ∧ OB 5 w.heap.size wr y l' ∧ Ext w wr) (fun _ _ i _ => ls.length - (intOf i).toNat)
      case atStart => exact ⟨0, [], Nat.zero_le _, rfl, rfl, ho1, he1⟩
      case round =>
        obtain ⟨k, l', hk, rfl, hl', hown, hext⟩ := hrel
        have HL' := Lib.hid hl'
        have hfl := flat_le ls k
        rw [← hl', HZ.out] at hfl
        clear hl'
        by_cases hlt : k < ls.length
        · obtain ⟨b, o, rfl⟩ := hrd.addr (by omega)
          obtain ⟨u, hu, hru⟩ := HAT.out k hlt
          have hcell := (hrd.ext hext).get hu
          have hru' := hru.ext hext
          obtain ⟨A', c', rfl, hr'⟩ := hru
          have hsn := flat_snoc ls hlt
          have hfl2 := flat_le ls (k + 1)
          rw [hsn, ← HL'.out, List.length_append, HZ.out] at hfl2
          rw [← HL'.out] at hsn
          have HS := Lib.hid hsn
          have HR := Lib.hid hru'
          have HO := Lib.hid hown
          clear hsn hu hru' hown
          have hk0 : (k : Int) < (ls.length : Int) := by omega
          go_wp2_with (at_builtin; refine wpList_app rfl elemB _ _ _ rfl w.heap.size _ l'.length (l'.map byteV) rfl HO.out _ ls[k].length (ls[k].map byteV) rfl HR.out (one_byteV _) (by omega) (by unfold maxLen; omega) hext.size ?_; intro v' w' ha)
          go_roundw
          case rel => exact ⟨k + 1, l' ++ ls[k], by omega, by go_num, HS.out.symm, by have := ha.own; simpa [OB] using this, ha.ext hext rfl HO.out⟩
          case measure => simp [intOf]; omega
        · obtain rfl : k = ls.length := by omega
          rw [List.take_length] at HL'
          go_wp2
          go_ret
          exact ⟨_, rfl, by rw [← HL'.out]; exact hown, hext⟩
end Go.Proofs.Ytacpomonidmjaaa
