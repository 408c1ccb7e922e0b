/-
  slices.Chunk at bytes, 42 at a time, and slices.Collect of it: a range over a function.
-/
import Derived.Test.YtklnbmcfnnmliaaDoorChecked
import Derived.Test.YtklnbmcfnnmliaaDoorSlcB
import Derived.Test.YtklnbmcfnnmliaaDoorPageMath
import Derived.RangeFuncNested
import Derived.RangeFuncBound
import Derived.RangeFuncCalls
import Derived.RangeFuncLeaves
import Derived.RangeFuncBox
import Derived.Shelf.Abstract
import Derived.Shelf.RegionOpen
import Derived.WalkKit
import Derived.OwnWalkIn
import Derived.TacticsInMore
import Derived.LoopNIn
import Derived.LoopIn
import Derived.Sort.BigQuietIn
import Derived.Sort.QuietTacIn
import Derived.Maps.AppendAt
namespace Go.Proofs.YtklnbmcfnnmliaaDoor
open Go.RowKit Go.Shelf Go.Ox
attribute [local go_sem] Oper.semAt_some

/-- how many pieces -/
def chunksN (n : Nat) : Nat := (n + 41) / 42
def chunkQ (len k : Nat) : Nat := Nat.min 42 (len - 42 * k)
/-- a piece, as a value -/
def chunkV (b o len k : Nat) : Value := .slice (some ⟨b, o + 42 * k, none⟩) (chunkQ len k) (chunkQ len k)
theorem below_drewN {n m : Nat} {a b : World} (h : Below n a b) : Below n a (b.drewN m) := h.trans ⟨rfl, rfl, rfl, Nat.le_refl _, fun _ _ => rfl⟩

set_option maxRecDepth 100000 in
set_option maxHeartbeats 2000000 in
theorem chunk1_in (F : Fence) (n : Nat) (hF : F.fn 39) (hro : F.round = none) (hn : 1 ≤ n) (l Bs Bn n₀ b o len cap : Nat) (hlen : len ≤ 1000000) (hpos : 0 < len) (hcap : len ≤ cap) (J Jx : List Nat → World → Prop)
    (hY : ∀ (pre : List Nat) (x : Nat) (W : World), J pre W → pre.length < chunksN len → YieldAt F (n - 1) Tryd.prog l #[chunkV b o len x] W fun e W' =>
      (e = .returned (.bool true) ∧ J (pre ++ [x]) W' ∧ Below n₀ W W') ∨ (e = .returned (.bool false) ∧ Jx (pre ++ [x]) W'))
    (W : World) (hBs : W.cell? ⟨Bs, 0, none⟩ = some (.slice (some ⟨b, o, none⟩) len cap)) (hBn : W.cell? ⟨Bn, 0, none⟩ = some (.int .i64 42)) (hs0 : Bs < n₀) (hn0 : Bn < n₀) (h0 : J [] W)
    (hdr : ∀ (xs : List Nat) (W1 : World) (m : Nat), J xs W1 → J xs (W1.drewN m)) :
    CallsIn F n Tryd.prog 39 #[.func (.yield l) #[] #[], .pointer (some ⟨Bs, 0, none⟩), .pointer (some ⟨Bn, 0, none⟩)] W fun e W' => (∃ v, e = .returned v) ∧
      ((∃ ys, ys = List.range (chunksN len) ∧ J ys W') ∨ (∃ pre, (∃ k, k ≤ chunksN len ∧ pre = List.range k) ∧ Jx pre W')) := by
  refine callsIn_of_wp Tryd.func39 rfl hF ?_ hro
  simp only [Tryd.ntmps39, List.size_toArray, List.length_cons, List.length_nil, Nat.reduceAdd, Nat.reduceSub, Array.replicate_succ, Array.replicate_zero, List.push_toArray, List.append_toArray, List.nil_append, List.cons_append]
  gi_wp2
  gi_loopw [4] (fun i wr => ∃ k : Nat, k ≤ chunksN len ∧ i = .int .i64 ((42 * k : Nat) : Int) ∧ J (List.range k) wr ∧ Below n₀ W wr)
    (fun i _ => chunksN len * 42 - (intOf i).toNat)
  case atStart => exact ⟨0, Nat.zero_le _, rfl, h0, Below.refl _ _⟩
  case round =>
    obtain ⟨k, hk, rfl, hJs, hnx⟩ := hrel
    have hc1 := (hnx.cell (p := ⟨Bs, 0, none⟩) hs0).trans hBs
    have hc2 := (hnx.cell (p := ⟨Bn, 0, none⟩) hn0).trans hBn
    by_cases hlt : 42 * k < len
    · have hg1 : ((42 * k : Nat) : Int) < (len : Int) := by omega
      have hg2 : ¬ cap = 42 * k := by omega
      have hg3 : 42 * k ≤ len := by omega
      have hch : k < chunksN len := by unfold chunksN; omega
      by_cases hq : 42 ≤ len - 42 * k
      · have hch2 : Hid (.slice (some ⟨b, o + 42 * k, none⟩) 42 42 = chunkV b o len k) := Lib.hid (by unfold chunkV chunkQ; rw [show Nat.min 42 (len - 42 * k) = 42 from Nat.min_eq_left hq])
        have hq1 : (42 : Int) ≤ ((len - 42 * k : Nat) : Int) := by omega
        have hq2 : ¬ ((len - 42 * k : Nat) : Int) < (42 : Int) := by omega
        have e1 : (42 * (k : Int) + 42).toNat - 42 * k = 42 := by omega
        have e2 : 42 * (k : Int) + 42 ≤ (cap : Int) := by omega
        gi_wp2
        refine wpIn_region_quiet_lit hro (by kernel_rfl) (by kernel_rfl) ?_
        repeat (gi_big_quiet_step (fail))
        refine wpQuietIn_nil ?_
        intro _ hw'
        obtain ⟨nq, hw''⟩ := hw'
        subst hw''
        obtain ⟨fn, tmps, assign, body, hy, hR⟩ := hY (List.range k) k (wr.drewN nq) (hdr _ _ _ hJs) (by rw [List.length_range]; exact hch)
        rw [← hch2.out] at hy
        gi_wp2
        refine hR.mono ?_
        rintro e W3 (⟨rfl, hJ3, hk3⟩ | ⟨rfl, hJx3⟩)
        · have hc3 := (hk3.cell (p := ⟨Bn, 0, none⟩) hn0).trans ((World.cell?_drewN wr _ _).trans hc2)
          gi_wp2
          go_roundw
          case rel => exact ⟨k + 1, by omega, by congr 1, by rw [List.range_succ]; exact hJ3, (below_drewN hnx).trans hk3⟩
          case measure => simp [intOf]; omega
        · gi_wp2
          refine bodyPost_ret (results_none rfl _ _ _) rfl ?_
          exact ⟨⟨_, rfl⟩, .inr ⟨_, ⟨k + 1, by omega, by rw [List.range_succ]⟩, hJx3⟩⟩
      · have hch2 : Hid (.slice (some ⟨b, o + 42 * k, none⟩) (len - 42 * k) (len - 42 * k) = chunkV b o len k) := Lib.hid (by unfold chunkV chunkQ; rw [show Nat.min 42 (len - 42 * k) = len - 42 * k from Nat.min_eq_right (by omega)])
        have hq1 : ¬ (42 : Int) ≤ ((len - 42 * k : Nat) : Int) := by omega
        have hq2 : ((len - 42 * k : Nat) : Int) < (42 : Int) := by omega
        have e1 : (42 * (k : Int) + ((len - 42 * k : Nat) : Int)).toNat - 42 * k = len - 42 * k := by omega
        have e2 : 42 * (k : Int) + ((len - 42 * k : Nat) : Int) ≤ (cap : Int) := by omega
        gi_wp2
        refine wpIn_region_quiet_lit hro (by kernel_rfl) (by kernel_rfl) ?_
        repeat (gi_big_quiet_step (fail))
        refine wpQuietIn_nil ?_
        intro _ hw'
        obtain ⟨nq, hw''⟩ := hw'
        subst hw''
        obtain ⟨fn, tmps, assign, body, hy, hR⟩ := hY (List.range k) k (wr.drewN nq) (hdr _ _ _ hJs) (by rw [List.length_range]; exact hch)
        rw [← hch2.out] at hy
        gi_wp2
        refine hR.mono ?_
        rintro e W3 (⟨rfl, hJ3, hk3⟩ | ⟨rfl, hJx3⟩)
        · have hc3 := (hk3.cell (p := ⟨Bn, 0, none⟩) hn0).trans ((World.cell?_drewN wr _ _).trans hc2)
          gi_wp2
          go_roundw
          case rel => exact ⟨k + 1, by omega, by congr 1, by rw [List.range_succ]; exact hJ3, (below_drewN hnx).trans hk3⟩
          case measure => simp [intOf]; omega
        · gi_wp2
          refine bodyPost_ret (results_none rfl _ _ _) rfl ?_
          exact ⟨⟨_, rfl⟩, .inr ⟨_, ⟨k + 1, by omega, by rw [List.range_succ]⟩, hJx3⟩⟩
    · have hk2 : k = chunksN len := by unfold chunksN at *; omega
      have hg1 : ¬ ((42 * k : Nat) : Int) < (len : Int) := by omega
      have HK := Lib.hid hk2
      clear hk2
      gi_wp2
      go_end0
      exact ⟨⟨_, rfl⟩, .inl (by rw [← HK.out]; exact hJs)⟩

-- slices.Chunk(s, 42): both are boxed
set_option maxRecDepth 100000 in
set_option maxHeartbeats 1000000 in
theorem chunk_any (A : Option Addr) (len cap : Nat) (w : World) :
    Calls Tryd.prog 28 #[.slice A len cap, .int .i64 42] w fun e w' => e = .returned (.func (.func 39) #[] #[.pointer (some ⟨w.heap.size, 0, none⟩), .pointer (some ⟨w.heap.size + 1, 0, none⟩)]) ∧ (w.alloc (.cells #[.slice A len cap] 22)).alloc (.cells #[.int .i64 42] 3) = w' := by
  go_enter Tryd.func28, Tryd.ntmps28
  go_wp2
  go_ret
  exact ⟨rfl, rfl⟩

theorem chunk_stops (F : Fence) (n : Nat) (hF : F.fn 39) (hro : F.round = none) (hn : 1 ≤ n) (Bs Bn n₀ b o len cap : Nat) (hlen : len ≤ 1000000) (hpos : 0 < len) (hcap : len ≤ cap) (w : World)
    (hBs : w.cell? ⟨Bs, 0, none⟩ = some (.slice (some ⟨b, o, none⟩) len cap)) (hBn : w.cell? ⟨Bn, 0, none⟩ = some (.int .i64 42)) (hs0 : Bs < n₀) (hn0 : Bn < n₀) (hle : n₀ ≤ w.heap.size) :
    SeqStopsK F n Tryd.prog 39 #[.pointer (some ⟨Bs, 0, none⟩), .pointer (some ⟨Bn, 0, none⟩)] (fun x : Nat => #[chunkV b o len x]) (Below n₀) (fun ys => ys = List.range (chunksN len)) (fun pre => ∃ k, k ≤ chunksN len ∧ pre = List.range k) (chunksN len) w := fun l J Jx W hW hJ _ hY h0 => by
  have hW' := hW.mono hle
  exact chunk1_in F n hF hro hn l Bs Bn n₀ b o len cap hlen hpos hcap J Jx hY W ((hW'.cell (p := ⟨Bs, 0, none⟩) hs0).trans hBs) ((hW'.cell (p := ⟨Bn, 0, none⟩) hn0).trans hBn) hs0 hn0 h0
    (fun xs W1 m h => hJ xs W1 _ none h ⟨rfl, rfl, rfl, Nat.le_refl _, fun _ _ _ => rfl⟩ (fun r e => by cases e))
end Go.Proofs.YtklnbmcfnnmliaaDoor
