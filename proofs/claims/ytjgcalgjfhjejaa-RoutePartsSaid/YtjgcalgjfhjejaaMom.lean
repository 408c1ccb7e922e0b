/-
  The walks of package moment and of its document's answer: moments.
-/
import Derived.Test.YtjgcalgjfhjejaaChecked
import Derived.Test.YtjgcalgjfhjejaaMem
import Derived.Test.YtjgcalgjfhjejaaEff
import Derived.Test.YtjgcalgjfhjejaaRdr
import Derived.Test.YtjgcalgjfhjejaaMomMath
import Derived.Test.YtjgcalgjfhjejaaSort
import Derived.WalkKit
import Derived.WalkSpells
import Derived.WalkLawsBesides
import Derived.StillTailTactics
import Derived.IntWalk
namespace Go.Proofs.Ytjgcalgjfhjejaa.Mo
open Go.RowKit Go.Ox

/-- a moment as a value -/
abbrev mV (m : Mom.M) : Value := .agg #[.int .i64 m.1, .int .i64 m.2]
/-- which of two numbers is less -/
def cmpI (x y : Int) : Int := if x < y then -1 else if y < x then 1 else 0

theorem boxes2 (w : World) (T T' : TypeId) (a b c d : Value) :
    ((w.alloc (.cells #[a, b] T)).alloc (.cells #[c, d] T')).cell? ⟨w.heap.size, 0, none⟩ = some a ∧ ((w.alloc (.cells #[a, b] T)).alloc (.cells #[c, d] T')).cell? ⟨w.heap.size, 1, none⟩ = some b ∧
    ((w.alloc (.cells #[a, b] T)).alloc (.cells #[c, d] T')).cell? ⟨w.heap.size + 1, 0, none⟩ = some c ∧ ((w.alloc (.cells #[a, b] T)).alloc (.cells #[c, d] T')).cell? ⟨w.heap.size + 1, 1, none⟩ = some d := by
  have h1 := Blk.new w T #[a, b]
  have h2 := Blk.new (w.alloc (.cells #[a, b] T)) T' #[c, d]
  have h3 := h1.ext ((Ext.refl _).alloc (.cells #[c, d] T'))
  have hs : (w.alloc (.cells #[a, b] T)).heap.size = w.heap.size + 1 := by simp
  rw [hs] at h2
  exact ⟨h3.cell 0, h3.cell 1, h2.cell 0, h2.cell 1⟩

set_option maxRecDepth 100000 in
set_option maxHeartbeats 400000 in
theorem isNaN_any (x : Int) (w : World) : Calls Try.prog 50 #[.int .i64 x] w fun e w' => e = .returned (.bool false) ∧ w = w' := by
  go_enter Try.func50, Try.ntmps50
  go_wp2
  go_ret
  exact ⟨rfl, rfl⟩
set_option maxRecDepth 100000 in
set_option maxHeartbeats 400000 in
theorem compareInt_any (x y : Int) (w : World) : Calls Try.prog 39 #[.int .i64 x, .int .i64 y] w fun e w' => e = .returned (.int .i64 (cmpI x y)) ∧ w = w' := by
  unfold cmpI
  by_cases h1 : x < y
  · rw [if_pos h1]
    go_enter Try.func39, Try.ntmps39
    go_wp2_with (go_at_call 50; refine (isNaN_any _ _).mono ?_; rintro e w' ⟨rfl, rfl⟩)
    go_ret
    exact ⟨rfl, rfl⟩
  · rw [if_neg h1]
    by_cases h2 : y < x
    · rw [if_pos h2]
      go_enter Try.func39, Try.ntmps39
      go_wp2_with (go_at_call 50; refine (isNaN_any _ _).mono ?_; rintro e w' ⟨rfl, rfl⟩)
      go_ret
      exact ⟨rfl, rfl⟩
    · rw [if_neg h2]
      go_enter Try.func39, Try.ntmps39
      go_wp2_with (go_at_call 50; refine (isNaN_any _ _).mono ?_; rintro e w' ⟨rfl, rfl⟩)
      go_ret
      exact ⟨rfl, rfl⟩
/-- the first that is not 0 -/
def orI (a b : Int) : Int := if a = 0 then b else a
theorem cmpOr (a b : Mom.M) : orI (cmpI a.1 b.1) (cmpI a.2 b.2) = Mom.cmp a b := by
  unfold orI cmpI Mom.cmp
  repeat' split
  all_goals omega
set_option maxRecDepth 100000 in
set_option maxHeartbeats 400000 in
theorem or_any (v : Value) (a b : Int) (w : World) (hv : Rd w 1 v 2 [.int .i64 a, .int .i64 b]) : Calls Try.prog 38 #[v] w fun e w' => e = .returned (.int .i64 (orI a b)) ∧ w = w' := by
  obtain ⟨A, c, rfl, hrd⟩ := hv
  obtain ⟨g, o, rfl⟩ := hrd.addr (by omega)
  have hc0 := hrd.get (j := 0) (u := .int .i64 a) rfl
  have hc1 := hrd.get (j := 1) (u := .int .i64 b) rfl
  rw [Nat.add_zero] at hc0
  clear hrd
  unfold orI
  go_enter Try.func38, Try.ntmps38
  go_wp2
  go_loop [8] (fun i => ∃ k : Nat, k ≤ 2 ∧ i = .int .i64 k ∧ (0 < k → a = 0) ∧ (1 < k → b = 0)) (fun i => 2 - (intOf i).toNat)
  case atStart => exact ⟨0, by omega, rfl, fun h => by omega, fun h => by omega⟩
  case round =>
    obtain ⟨k, hk, rfl, h0, h1⟩ := hrel
    match k, hk with
    | 0, _ =>
      by_cases ha : a = 0
      · subst ha
        clear h0 h1
        go_wp2
        exact ⟨⟨1, by omega, rfl, by simp, fun h => by omega⟩, by simp [intOf]⟩
      · have hb : (a != 0) = true := by simpa using ha
        clear h0 h1
        go_wp2
        go_ret
        exact ⟨rfl, rfl⟩
    | 1, _ =>
      obtain rfl := h0 (by omega)
      by_cases hb : b = 0
      · subst hb
        clear h0 h1
        go_wp2
        exact ⟨⟨2, by omega, rfl, by simp, by simp⟩, by simp [intOf]⟩
      · have hb2 : (b != 0) = true := by simpa using hb
        clear h0 h1
        go_wp2
        go_ret
        exact ⟨rfl, rfl⟩
    | 2, _ =>
      obtain rfl := h0 (by omega)
      obtain rfl := h1 (by omega)
      clear h0 h1
      go_wp2
      go_ret
      exact ⟨rfl, rfl⟩
set_option maxRecDepth 100000 in
set_option maxHeartbeats 400000 in
theorem check_any (m : Mom.M) (w : World) : Calls Try.prog 25 #[mV m] w fun e w' => e = .returned (.int .i64 (if Mom.ok m = true then 0 else 40)) ∧ Ext w w' := by
  obtain ⟨e, r⟩ := m
  unfold Mom.ok
  dsimp only
  by_cases h1 : e < 0
  · rw [if_neg (by simp; omega)]
    go_enter Try.func25, Try.ntmps25
    go_wp2
    go_ret
    exact ⟨rfl, (Ext.refl _).alloc _⟩
  by_cases h2 : 65536 ≤ e
  · rw [if_neg (by simp; omega)]
    go_enter Try.func25, Try.ntmps25
    go_wp2
    go_ret
    exact ⟨rfl, (Ext.refl _).alloc _⟩
  by_cases h3 : r < 0
  · rw [if_neg (by simp; omega)]
    go_enter Try.func25, Try.ntmps25
    go_wp2
    go_ret
    exact ⟨rfl, (Ext.refl _).alloc _⟩
  by_cases h4 : 65536 ≤ r
  · rw [if_neg (by simp; omega)]
    go_enter Try.func25, Try.ntmps25
    go_wp2
    go_ret
    exact ⟨rfl, (Ext.refl _).alloc _⟩
  · rw [if_pos (by simp; omega)]
    go_enter Try.func25, Try.ntmps25
    go_wp2
    go_ret
    exact ⟨rfl, (Ext.refl _).alloc _⟩
end Go.Proofs.Ytjgcalgjfhjejaa.Mo
