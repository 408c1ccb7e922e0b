/-
  Package route: a key's shard; which shards there may be.
-/
import Derived.Test.YtjgcalgjfhjejaaRtMath
import Derived.Test.YtjgcalgjfhjejaaRecAll
import Derived.Test.YtjgcalgjfhjejaaRecRef
import Derived.Test.YtjgcalgjfhjejaaEff2
namespace Go.Proofs.Ytjgcalgjfhjejaa
open Go.RowKit Go.Ox Go.Shelf
attribute [local irreducible] OP RP
set_option linter.unusedVariables false
set_option linter.unusedSimpArgs false

set_option maxRecDepth 100000 in
set_option maxHeartbeats 400000 in
theorem rtmay_any (n : Int) (w : World) : Calls Try.prog 18 #[.int .i64 n] w fun e w' => e = .returned (.bool (decide (1 ≤ n) && decide (n ≤ 8))) ∧ w = w' := by
  by_cases h : 1 ≤ n
  · have h2 : decide (1 ≤ n) = true := by simpa using h
    go_enter Try.func18, Try.ntmps18
    go_wp2
    go_ret
    exact ⟨by simp [h], rfl⟩
  · have h2 : decide (1 ≤ n) = false := by simpa using h
    go_enter Try.func18, Try.ntmps18
    go_wp2
    go_ret
    exact ⟨by simp [h], rfl⟩
theorem rtmay_is (n : Int) (w : World) (b : Bool) (h : (decide (1 ≤ n) && decide (n ≤ 8)) = b) : Calls Try.prog 18 #[.int .i64 n] w fun e w' => e = .returned (.bool b) ∧ w = w' := by
  rw [← h]; exact rtmay_any n w

set_option maxRecDepth 100000 in
set_option maxHeartbeats 1000000 in
theorem shard_any (k n : Int) (w : World) : Calls Try.prog 16 #[.int .i64 k, .int .i64 n] w fun e w' => e = .returned (.int .i64 (Rt.shard k n)) ∧ w = w' := by
  by_cases hk : k < 0
  · have hs : Rt.shard k n = 0 := by unfold Rt.shard; rw [if_pos (.inl hk)]
    rw [hs]
    clear hs
    go_enter Try.func16, Try.ntmps16
    go_wp2
    go_ret
    exact ⟨rfl, rfl⟩
  by_cases hk2 : 1048575 < k
  · have hs : Rt.shard k n = 0 := by unfold Rt.shard; rw [if_pos (.inr (.inl hk2))]
    rw [hs]
    clear hs
    go_enter Try.func16, Try.ntmps16
    go_wp2
    go_ret
    exact ⟨rfl, rfl⟩
  by_cases hn : 1 ≤ n ∧ n ≤ 8
  · have HM := Lib.hid (fun w => rtmay_is n w true (by simp; omega))
    have hs : Rt.shard k n = k * 2654435761 % 4294967296 / 65536 % n := by unfold Rt.shard; rw [if_neg (by omega)]
    have h1 : IntKind.u32.wrap k = k := IntWalk.u32_in _ (by omega)
    have h2 : IntKind.u32.wrap (k * 2654435761) = k * 2654435761 % 4294967296 := by rw [IntKind.wrap_u32]
    have hb : 0 ≤ k * 2654435761 % 4294967296 ∧ k * 2654435761 % 4294967296 < 4294967296 := by omega
    have HS := Lib.hid hs
    generalize k * 2654435761 % 4294967296 = z at *
    have hb2 : 0 ≤ z / 65536 ∧ z / 65536 < 65536 := by omega
    have h3 : IntKind.i64.wrap (z / 65536) = z / 65536 := IntWalk.i64_in _ (by omega)
    have h3' : IntKind.u32.wrap (z / 65536) = z / 65536 := IntWalk.u32_in _ (by omega)
    have h4 : (z / 65536).tmod n = z / 65536 % n := IntWalk.rem_in _ _ (by omega)
    have hb3 : 0 ≤ z / 65536 % n ∧ z / 65536 % n < n := ⟨Int.emod_nonneg _ (by omega), Int.emod_lt_of_pos _ (by omega)⟩
    have h5 : IntKind.i64.wrap (z / 65536 % n) = z / 65536 % n := IntWalk.i64_in _ (by omega)
    have hnz : ¬ n = 0 := by omega
    have hnz2 : (n == 0) = false := by simpa using hnz
    clear hs
    go_enter Try.func16, Try.ntmps16
    go_wp2_with fail
    refine (HM.out _).mono ?_
    rintro e w' ⟨rfl, rfl⟩
    go_wp2
    go_ret
    rw [HS.out]
    exact ⟨rfl, rfl⟩
  · have HM := Lib.hid (fun w => rtmay_is n w false (by simp; omega))
    have hs : Rt.shard k n = 0 := by unfold Rt.shard; rw [if_pos (by omega)]
    rw [hs]
    clear hs hn
    go_enter Try.func16, Try.ntmps16
    go_wp2_with fail
    refine (HM.out _).mono ?_
    rintro e w' ⟨rfl, rfl⟩
    go_wp2
    go_ret
    exact ⟨rfl, rfl⟩
end Go.Proofs.Ytjgcalgjfhjejaa
