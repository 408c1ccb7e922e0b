/-
  The walks of package count: what is made, what is looked up, what is added.
-/
import Derived.Test.YtngdlahgihbmhaaMom
import Derived.Test.YtngdlahgihbmhaaRowE
import Derived.Test.YtngdlahgihbmhaaCntMath
import Derived.Test.YtngdlahgihbmhaaTail
import Derived.Test.YtngdlahgihbmhaaShelf
namespace Go.Proofs.Ytngdlahgihbmhaa
open Go.RowKit Go.Ox
set_option linter.unusedVariables false
set_option linter.unusedSimpArgs false

/-- a place or a moment as a value; a key; a number; a stamp -/
abbrev pV2 (m : Int × Int) : Value := .agg #[.int .i64 m.1, .int .i64 m.2]
abbrev kV (k : Cnt.K) : Value := .agg #[.int .i64 k.1.1, .int .i64 k.1.2, .int .i64 k.2.1, .int .i64 k.2.2]
abbrev vI (n : Int) : Value := .int .i64 n
abbrev sV (x : Cnt.S) : Value := .agg #[.int .i64 x.1.1.1, .int .i64 x.1.1.2, .int .i64 x.1.2.1, .int .i64 x.1.2.2, .int .i64 x.2]
instance encS : Enc Cnt.S where
  k := 5
  enc x := [.int .i64 x.1.1.1, .int .i64 x.1.1.2, .int .i64 x.1.2.1, .int .i64 x.1.2.2, .int .i64 x.2]
  len _ := rfl
  pos := by omega
  one x u hu := by simp at hu; rcases hu with rfl | rfl | rfl | rfl | rfl <;> rfl
theorem elemS : Elem Try.prog 22 34 (.agg #[.int .i64 0, .int .i64 0, .int .i64 0, .int .i64 0, .int .i64 0]) 5 40 := Elem.mk' Try.underlying22 (by kernel_rfl) rfl (by omega)

/-! ### keys -/
def pairE (a b c d : Int) : Bool := (a == c) && (b == d)
theorem eqInP (a b c d : Int) (w : World) : (Op.equalIn 9999 30 (.agg #[.int .i64 a, .int .i64 b]) (.agg #[.int .i64 c, .int .i64 d])).run Try.prog w = .ok (pairE a b c d) w := by
  have u3 := Try.underlying3
  have a3 := Try.isAgg3
  have z3 := Try.sizeOf3
  have hS : Try.prog.underlying 30 = some (.struct (Try.prog.fieldsOf 30)) := by kernel_rfl
  have hp : Try.prog.stoodInHeld 30 = false := by kernel_rfl
  rw [show (9999 : Nat) = 9998 + 1 from rfl, run_equalIn_agg w 9998 30 _ _ hS hp]
  simp only [Program.fieldsOf, Try.underlying30]
  unfold pairE
  go_simp
  by_cases h1 : a = c <;> by_cases h2 : b = d <;> simp [h1, h2]
theorem eqInM2 (a b c d : Int) (w : World) : (Op.equalIn 9999 32 (.agg #[.int .i64 a, .int .i64 b]) (.agg #[.int .i64 c, .int .i64 d])).run Try.prog w = .ok (pairE a b c d) w := by
  have u3 := Try.underlying3
  have a3 := Try.isAgg3
  have z3 := Try.sizeOf3
  have hS : Try.prog.underlying 32 = some (.struct (Try.prog.fieldsOf 32)) := by kernel_rfl
  have hp : Try.prog.stoodInHeld 32 = false := by kernel_rfl
  rw [show (9999 : Nat) = 9998 + 1 from rfl, run_equalIn_agg w 9998 32 _ _ hS hp]
  simp only [Program.fieldsOf, Try.underlying32]
  unfold pairE
  go_simp
  by_cases h1 : a = c <;> by_cases h2 : b = d <;> simp [h1, h2]
theorem eqInK (x y : Cnt.K) (w : World) : (Op.equalIn 10000 52 (kV x) (kV y)).run Try.prog w = .ok (decide (x = y)) w := by
  have hS : Try.prog.underlying 52 = some (.struct (Try.prog.fieldsOf 52)) := by kernel_rfl
  have hp : Try.prog.stoodInHeld 52 = false := by kernel_rfl
  have h1 := eqInP
  have h2 := eqInM2
  have a1 := Try.isAgg30
  have a2 := Try.isAgg32
  have z1 := Try.sizeOf30
  have z2 := Try.sizeOf32
  rw [show (10000 : Nat) = 9999 + 1 from rfl, run_equalIn_agg w 9999 52 _ _ hS hp]
  simp only [Program.fieldsOf, Try.underlying52]
  obtain ⟨⟨x1, x2⟩, x3, x4⟩ := x
  obtain ⟨⟨y1, y2⟩, y3, y4⟩ := y
  go_simp
  unfold pairE
  by_cases q1 : x1 = y1 <;> by_cases q2 : x2 = y2 <;> by_cases q3 : x3 = y3 <;> by_cases q4 : x4 = y4 <;> simp [q1, q2, q3, q4]
theorem chkK (e : Bool) (x : Cnt.K) (w : World) : (Instr.checkKey e 10000 52 (kV x)).run Try.prog w = .ok () w := by
  kernel_rfl
theorem bitsK (x : Cnt.K) : Instr.sameBits 10000 (kV x) (kV x) = true := by
  show Instr.sameBits (9999 + 1) (kV x) (kV x) = true
  simp [Instr.sameBits]
theorem keyK : KeyE Try.prog 52 kV where
  eq := eqInK
  chk := chkK
  now x y es i b n := ⟨_, Try.underlying52, rfl, rfl⟩
  bits := bitsK
theorem zeroI (w : World) : (zeroValue 3).run Try.prog w = .ok (vI 0) w := by kernel_rfl

/-- counts in memory -/
structure CM (w : World) (g b : Nat) (L : List Cnt.S) : Prop where
  box : Blk w g 49 #[.map (some b)]
  ne : g ≠ b
  map : ∃ l, MapE kV vI w b l ∧ ∀ x, x ∈ l ↔ x ∈ L
  good : Cnt.Good L
theorem CM.ext {w w' : World} {g b : Nat} {L : List Cnt.S} (h : CM w g b L) (he : Ext w w') : CM w' g b L := by
  obtain ⟨l, h1, h2⟩ := h.map
  exact ⟨h.box.ext he, h.ne, ⟨l, h1.ext he, h2⟩, h.good⟩
theorem CM.extM {w w' : World} {g b c : Nat} {L : List Cnt.S} (h : CM w g b L) (he : ExtM c w w') (h1 : g ≠ c) (h2 : b ≠ c) : CM w' g b L := by
  obtain ⟨l, h3, h4⟩ := h.map
  exact ⟨h.box.extM he h1, h.ne, ⟨l, h3.extM he h2, h4⟩, h.good⟩
theorem CM.lt {w : World} {g b : Nat} {L : List Cnt.S} (h : CM w g b L) : g < w.heap.size ∧ b < w.heap.size := by
  obtain ⟨l, h1, _⟩ := h.map
  exact ⟨h.box.lt, h1.lt⟩
theorem was_of {l L : List Cnt.S} (hn : (l.map (·.1)).Nodup) (hg : Cnt.Good L) (h : ∀ x, x ∈ l ↔ x ∈ L) (k : Cnt.K) : (ofE k l).getD 0 = Cnt.was L k := by
  unfold Cnt.was ofE
  cases h1 : fdE k l 0 with
  | none =>
    have := fdE_none.1 h1
    rw [fdE_none.2 fun x hx => this x ((h x).2 hx)]
  | some p =>
    have hm := (h _).1 (fdE_some (show fdE k l 0 = some (p.1, p.2) from h1))
    obtain ⟨j, hj⟩ := fdE_mem (i := 0) (Cnt.asc_nodup hg.asc) hm
    rw [hj]
    rfl
/-- a count is looked up -/
theorem CM.look {w : World} {g b : Nat} {L : List Cnt.S} (h : CM w g b L) (k : Cnt.K) : (Instr.lookup 47 (.map (some b)) (kV k) false).run Try.prog w = .ok (vI (Cnt.was L k)) w := by
  obtain ⟨l, h1, h2⟩ := h.map
  rw [h1.run_look keyK Try.underlying47 (z := 0) zeroI k, was_of h1.nodup h.good h2]

set_option maxRecDepth 100000 in
set_option maxHeartbeats 400000 in
theorem new_any (w : World) : Calls Try.prog 8 #[] w fun e w' => ∃ g b, e = .returned (.pointer (some ⟨g, 0, none⟩)) ∧ w.heap.size ≤ g ∧ w.heap.size ≤ b ∧ CM w' g b [] ∧ Ext w w' := by
  have hmm := @run_makeMap Try.prog
  go_enter Try.func8, Try.ntmps8
  go_wp2
  go_ret
  have hm := MapE.new (kV := kV) (vV := vI) w
  have hb := Blk.new (w.alloc (.map #[] 0)) 49 #[.map (some w.heap.size)]
  have hs : (w.alloc (.map #[] 0)).heap.size = w.heap.size + 1 := by simp
  rw [hs] at hb
  refine ⟨_, _, rfl, ?_, Nat.le_refl _, ⟨hb, ?_, ⟨[], hm.ext ((Ext.refl _).alloc _), by simp⟩, Cnt.good_nil⟩, ((Ext.refl _).alloc _).alloc _⟩
  · simp
  · simp
theorem run_neq_map_nil (w : World) (b : Nat) : (binOp .neq 47 (.map (some b)) (.map none)).run Try.prog w = .ok (.bool true) w := by
  have h := Go.Proofs.run_equalIn_map_nil_sl (P := Try.prog) w 9999 47 _ _ (some b) Try.underlying47
  simp only [binOp]
  simp [show ∀ t x y, Op.equal t x y = Op.equalIn (9999 + 1) t x y from fun _ _ _ => rfl, h]
set_option maxRecDepth 100000 in
set_option maxHeartbeats 400000 in
theorem made_any (w : World) (g b : Nat) (L : List Cnt.S) (h : CM w g b L) : Calls Try.prog 21 #[.pointer (some ⟨g, 0, none⟩)] w fun e w' => e = .returned (.bool true) ∧ w = w' := by
  have hc := h.box.cell 0
  have hc : w.cell? ⟨g, 0, none⟩ = some (.map (some b)) := hc
  have hq := fun w => run_neq_map_nil w b
  clear h
  go_enter Try.func21, Try.ntmps21
  go_wp2
  go_ret
  exact ⟨rfl, rfl⟩
set_option maxRecDepth 100000 in
set_option maxHeartbeats 400000 in
theorem made_nil (w : World) : Calls Try.prog 21 #[.pointer none] w fun e w' => e = .returned (.bool false) ∧ w = w' := by
  go_enter Try.func21, Try.ntmps21
  go_wp2
  go_ret
  exact ⟨rfl, rfl⟩
end Go.Proofs.Ytngdlahgihbmhaa
