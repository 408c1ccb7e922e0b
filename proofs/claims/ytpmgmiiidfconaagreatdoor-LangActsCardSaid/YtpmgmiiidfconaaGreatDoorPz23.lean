/-
  ShelfJ, LaJoin, GrReach, LaNd, LaNd2, packed: what the claim needs of them.
-/
import Derived.Shelf.SlGeneric
import Derived.Shelf.Strings.OnBuilder
import Derived.Ground.NamesProg
import Derived.Shelf.Small.Wraps
import Derived.Shelf.Slices.Equal
import Derived.Shelf.Slices.Empties2
import Derived.Test.YtpmgmiiidfconaaGreatDoorProg
import Derived.Test.YtpmgmiiidfconaaGreatDoorPz15
import Derived.Test.YtpmgmiiidfconaaGreatDoorPz10
import Derived.Test.YtpmgmiiidfconaaGreatDoorPz08
import Derived.Test.YtpmgmiiidfconaaGreatDoorPz14
namespace Go.Proofs.YtpmgmiiidfconaaGreatDoor
open Go.Shelf Go.Proofs
def Tryz.joinL_ren : Go.Shelf.Ren := ⟨fun | 156 => 44 | 165 => 81 | 166 => 60 | 169 => 31 | 240 => 93 | 241 => 109 | 276 => 119 | 277 => 133 | n => n, fun | 31 => 29 | 9 => 9 | 3 => 3 | 4 => 4 | 0 => 0 | 20 => 20 | 72 => 76 | 76 => 114 | 70 => 73 | 37 => 74 | 75 => 113 | 127 => 120 | 164 => 167 | 5 => 5 | 80 => 84 | n => n, fun | n => n⟩
theorem Tryz.joinL : Go.Proofs.Lays.n156 Tryz.prog Tryz.joinL_ren := {
  mixed := by kernel_rfl
  f156 := Tryz.func44.trans (congrArg some (by kernel_rfl))
  f165 := Tryz.func81.trans (congrArg some (by kernel_rfl))
  f166 := Tryz.func60.trans (congrArg some (by kernel_rfl))
  f169 := Tryz.func31.trans (congrArg some (by kernel_rfl))
  f240 := Tryz.func93.trans (congrArg some (by kernel_rfl))
  f241 := Tryz.func109.trans (congrArg some (by kernel_rfl))
  f276 := Tryz.func119.trans (congrArg some (by kernel_rfl))
  f277 := Tryz.func133.trans (congrArg some (by kernel_rfl))
  t0 := Tryz.underlying0
  a0 := Tryz.isAgg0
  z0 := Tryz.sizeOf0
  v0 := Tryz.zeroValue0
  t3 := Tryz.underlying3
  a3 := Tryz.isAgg3
  z3 := Tryz.sizeOf3
  v3 := Tryz.zeroValue3
  t4 := Tryz.underlying4
  a4 := Tryz.isAgg4
  z4 := Tryz.sizeOf4
  v4 := Tryz.zeroValue4
  t9 := Tryz.underlying9
  a9 := Tryz.isAgg9
  z9 := Tryz.sizeOf9
  v9 := Tryz.zeroValue9
  t20 := Tryz.underlying20
  a20 := Tryz.isAgg20
  z20 := Tryz.sizeOf20
  v20 := Tryz.zeroValue20
  t31 := Tryz.underlying29
  a31 := Tryz.isAgg29
  z31 := Tryz.sizeOf29
  v31 := Tryz.zeroValue29
  t37 := Tryz.underlying74
  a37 := Tryz.isAgg74
  z37 := Tryz.sizeOf74
  v37 := Tryz.zeroValue74
  t70 := Tryz.underlying73
  a70 := Tryz.isAgg73
  z70 := Tryz.sizeOf73
  v70 := Tryz.zeroValue73
  t72 := Tryz.underlying76
  a72 := Tryz.isAgg76
  z72 := Tryz.sizeOf76
  v72 := Tryz.zeroValue76
  t75 := Tryz.underlying113
  a75 := Tryz.isAgg113
  z75 := Tryz.sizeOf113
  v75 := Tryz.zeroValue113
  t76 := Tryz.underlying114
  a76 := Tryz.isAgg114
  z76 := Tryz.sizeOf114
  v76 := Tryz.zeroValue114
  t127 := Tryz.underlying120
  a127 := Tryz.isAgg120
  z127 := Tryz.sizeOf120
  v127 := Tryz.zeroValue120
  t164 := Tryz.underlying167
  a164 := Tryz.isAgg167
  z164 := Tryz.sizeOf167
  v164 := Tryz.zeroValue167 }
def Tryz.cutpL_ren : Go.Shelf.Ren := ⟨fun | 103 => 128 | 210 => 151 | 206 => 166 | n => n, fun | 9 => 9 | 4 => 4 | 24 => 175 | 3 => 3 | n => n, fun | n => n⟩
theorem Tryz.cutpL : Go.Proofs.Lays.n103 Tryz.prog Tryz.cutpL_ren := {
  mixed := by kernel_rfl
  f103 := Tryz.func128.trans (congrArg some (by kernel_rfl))
  f206 := Tryz.func166.trans (congrArg some (by kernel_rfl))
  f210 := Tryz.func151.trans (congrArg some (by kernel_rfl))
  t3 := Tryz.underlying3
  a3 := Tryz.isAgg3
  z3 := Tryz.sizeOf3
  v3 := Tryz.zeroValue3
  t4 := Tryz.underlying4
  a4 := Tryz.isAgg4
  z4 := Tryz.sizeOf4
  v4 := Tryz.zeroValue4
  t9 := Tryz.underlying9
  a9 := Tryz.isAgg9
  z9 := Tryz.sizeOf9
  v9 := Tryz.zeroValue9
  t24 := Tryz.underlying175
  a24 := Tryz.isAgg175
  z24 := Tryz.sizeOf175
  v24 := Tryz.zeroValue175 }
def Tryz.eqsL_ren : Go.Shelf.Ren := ⟨fun | 193 => 98 | n => n, fun | 31 => 29 | 9 => 9 | 4 => 4 | 3 => 3 | 0 => 0 | n => n, fun | n => n⟩
theorem Tryz.eqsL : Go.Proofs.Lays.n193 Tryz.prog Tryz.eqsL_ren := {
  mixed := by kernel_rfl
  f193 := Tryz.func98.trans (congrArg some (by kernel_rfl))
  t0 := Tryz.underlying0
  a0 := Tryz.isAgg0
  z0 := Tryz.sizeOf0
  v0 := Tryz.zeroValue0
  t3 := Tryz.underlying3
  a3 := Tryz.isAgg3
  z3 := Tryz.sizeOf3
  v3 := Tryz.zeroValue3
  t4 := Tryz.underlying4
  a4 := Tryz.isAgg4
  z4 := Tryz.sizeOf4
  v4 := Tryz.zeroValue4
  t9 := Tryz.underlying9
  a9 := Tryz.isAgg9
  z9 := Tryz.sizeOf9
  v9 := Tryz.zeroValue9
  t31 := Tryz.underlying29
  a31 := Tryz.isAgg29
  z31 := Tryz.sizeOf29
  v31 := Tryz.zeroValue29 }
end Go.Proofs.YtpmgmiiidfconaaGreatDoor
set_option linter.unusedVariables false
set_option linter.unusedSimpArgs false
namespace Go.Ox.La
open Go Go.Lib Go.Ox
/-- words with a blank between -/
def joinL (l : List W) : W := Lib.join l [32]
end Go.Ox.La
namespace Go.Proofs.YtpmgmiiidfconaaGreatDoor
open Go.RowKit Go.Ox Go.Ox.Gr Go.Ox.Sc Go.Ox.La Go.Shelf
theorem joinX : Builder.Extra Tryz.prog Tryz.joinL_ren := {
  sizeBuilder := by kernel_rfl
  liesBuilder := by kernel_rfl
  t5 := Tryz.underlying5
  a5 := Tryz.isAgg5
  z5 := Tryz.sizeOf5
  v5 := Tryz.zeroValue5
  infoByte := by kernel_rfl
  cellsByte := by kernel_rfl
  sizeByte := by kernel_rfl
  neB5 := by decide }
theorem join_any (v : Value) (l : List W) (w : World) (hv : RE w v l) (hl : l.length ≤ 1000000) (hs : (joinL l).length ≤ 1000000) :
    Calls Tryz.prog 44 #[v, .string ⟨#[32]⟩] w fun e w' => e = .returned (strV (joinL l)) ∧ Ext w w' := by
  obtain ⟨A, c, rfl⟩ := hv.form
  obtain ⟨-, hlc, -⟩ := hv.nc
  cases l with
  | nil =>
    refine (Any.strings_Join_none Tryz.joinL joinX A c ⟨#[32]⟩ w).mono ?_
    rintro e w' ⟨rfl, rfl⟩
    exact ⟨rfl, Ext.refl _⟩
  | cons x r =>
    obtain ⟨b, o, rfl, hx⟩ := reW1 hv (k := 0) (by simp)
    have hb : b < w.heap.size := block_lt_of_cell hx
    have hc : ∀ (j : Nat) (y : ByteArray), ((x :: r).map fun x => (⟨x.toArray⟩ : ByteArray))[j]? = some y → w.cell? ⟨b, o + j, none⟩ = some (.string y) := by
      intro j y hy
      rw [List.getElem?_map] at hy
      obtain ⟨z, hz, rfl⟩ := Option.map_eq_some_iff.1 hy
      obtain ⟨hj, rfl⟩ := List.getElem?_eq_some_iff.1 hz
      obtain ⟨b', o', he, h2⟩ := reW1 hv (k := j) hj
      injection he with he
      injection he with h3 h4
      subst h3 h4
      exact h2
    have hm : ((x :: r).map fun x => (⟨x.toArray⟩ : ByteArray)).map (·.data.toList) = x :: r := by
      rw [List.map_map]
      conv => rhs; rw [← List.map_id (x :: r)]
      exact List.map_congr_left fun y _ => by simp
    have h := Any.strings_Join Tryz.joinL joinX b o c ((x :: r).map fun x => (⟨x.toArray⟩ : ByteArray)) ⟨#[32]⟩ w hc hb (by rw [List.length_map]; omega) (by rw [List.length_map]; exact hlc) (by rw [hm]; exact Nat.le_trans hs (by omega))
    rw [hm, List.length_map] at h
    exact h
theorem cutPrefix_any (s : W) (c : UInt8) (w : World) : Calls Tryz.prog 128 #[strV s, strV [c]] w fun e w' => e = .returned (.tuple #[strV (if s.head? = some c then s.tail else s), .bool (decide (s.head? = some c))]) ∧ w' = w := by
  refine (Any.strings_CutPrefix Tryz.cutpL ⟨s.toArray⟩ ⟨[c].toArray⟩ w).mono ?_
  rintro e w' ⟨rfl, rfl⟩
  refine ⟨?_, rfl⟩
  have h1 : Lib.hasPrefix s [c] = decide (s.head? = some c) := by
    unfold Lib.hasPrefix
    cases s with
    | nil => rfl
    | cons x r =>
      rw [Bool.eq_iff_iff]
      simp
      exact eq_comm
  show Ending.returned (.tuple #[.string ⟨(Lib.trimPrefix s [c]).toArray⟩, .bool (Lib.hasPrefix s [c])]) = _
  unfold Lib.trimPrefix
  rw [h1]
  by_cases h : s.head? = some c
  · rw [if_pos h, decide_eq_true h, if_pos rfl]
    cases s with
    | nil => simp at h
    | cons x r => rfl
  · rw [if_neg h, decide_eq_false h, if_neg (by decide)]
theorem cut58_any (l : W) (w : World) (hl : l.length ≤ 1000000) (hm : MaxL w) : Calls Tryz.prog 34 #[strV l, .string ⟨#[58]⟩] w fun e w' => e = .returned (.tuple #[strV (Lib.cut l [58]).1, strV (Lib.cut l [58]).2.1, .bool (Lib.cut l [58]).2.2]) ∧ Ext w w' := by
  obtain ⟨m, hm⟩ := hm
  refine (Any.strings_Cut Tryz.cutL ⟨l.toArray⟩ ⟨#[58]⟩ m w (by simp [ByteArray.size]; omega) hm).mono ?_
  rintro e w' ⟨rfl, n, rfl⟩
  exact ⟨rfl, (Ext.refl w).drewN n⟩
/-- slices.Equal at words, against one word -/
theorem equal1_any (v : Value) (l : List W) (x : W) (b : Nat) (w : World) (hv : RE w v l) (hl : l.length ≤ 1000000) (hx : w.cell? ⟨b, 0, none⟩ = some (strV x)) :
    Calls Tryz.prog 98 #[v, .slice (some ⟨b, 0, none⟩) 1 1] w fun e w' => e = .returned (.bool (decide (l = [x]))) ∧ Ext w w' := by
  obtain ⟨A, c, rfl⟩ := hv.form
  by_cases h1 : l.length = 1
  · obtain ⟨y, rfl⟩ : ∃ y, l = [y] := by
      match l, h1 with
      | [y], _ => exact ⟨y, rfl⟩
    obtain ⟨b2, o, rfl, hy⟩ := reW1 hv (k := 0) (by simp)
    refine (Any.slices_Equal_string Tryz.eqsL b2 o 1 c b 0 1 1 [⟨y.toArray⟩] [⟨x.toArray⟩] w (by simp) (by simp) (by omega) (by omega) (fun j hj => ?_) (fun j hj => ?_)).mono ?_
    · obtain rfl : j = 0 := by simp at hj; omega
      exact hy
    · obtain rfl : j = 0 := by simp at hj; omega
      exact hx
    · rintro e w' ⟨rfl, q, rfl⟩
      refine ⟨?_, (Ext.refl w).drewN q⟩
      congr 2
      rw [decide_eq_decide]
      simp only [List.take, List.cons.injEq, and_true]
      constructor
      · intro h
        simpa using congrArg Array.toList (congrArg ByteArray.data h)
      · intro h; rw [h]
  · refine (Any.slices_Equal_string_lens Tryz.eqsL A (some ⟨b, 0, none⟩) l.length c 1 1 w h1).mono ?_
    rintro e w' ⟨rfl, rfl⟩
    refine ⟨?_, Ext.refl _⟩
    rw [decide_eq_false]
    rintro rfl
    exact h1 rfl
end Go.Proofs.YtpmgmiiidfconaaGreatDoor
namespace Go.Ox.Gr
open Go.RowKit
def reachB : List Nd := [.mk 10 [] 0 0 0 [], .mk 11 [] 0 0 0 [], .mk 6 [0, 1] 23 0 0 [], .mk 2 [2] 3 0 0 [], .mk 2 [3] 5 1 0 [], .mk 8 [0, 4] 0 0 0 [], .mk 7 [5] 0 0 0 []]
def reachN (n : Int) : List Nd := [.mk 1 [] 0 0 0 [], .mk 1 [] 0 0 1 [], .mk 9 [1] 0 0 n reachB]
def reachL : List Nd := reachN 9
/-- the cells of a node -/
def ndC (op kind fa a : Int) (u b : Value) : List Value := [.int .i64 op, u, .int .i64 kind, .int .i64 fa, .int .i64 a, b]
/-- a node's cells say so -/
theorem NdQ.mk {d : Nat} {w : World} {op kind fa a : Int} {u b : Value} {ins : List Int} {body : List Nd} (hu : RE w u ins) (hb : NodesR d w b body) : NdQ (NodesR d) w (ndC op kind fa a u b) (.mk op ins kind fa a body) := ⟨u, b, rfl, hu, hb⟩
/-- rows of nodes, one by one -/
def Each2 (Q : List Value → Nd → Prop) : List (List Value) → List Nd → Prop
  | [], [] => True
  | r :: rs, x :: xs => (r.length = 6 ∧ Q r x) ∧ Each2 Q rs xs
  | _, _ => False
theorem Each2.len {Q : List Value → Nd → Prop} : ∀ {rs : List (List Value)} {xs : List Nd}, Each2 Q rs xs → rs.length = xs.length
  | [], [], _ => rfl
  | [], _ :: _, h => h.elim
  | _ :: _, [], h => h.elim
  | _ :: rs, _ :: xs, h => by simp [Each2.len h.2]
theorem Each2.at_ {Q : List Value → Nd → Prop} : ∀ {rs : List (List Value)} {xs : List Nd}, Each2 Q rs xs → ∀ (i : Nat) (r : List Value) (x : Nd), rs[i]? = some r → xs[i]? = some x → r.length = 6 ∧ Q r x
  | [], [], _, _, _, _, h, _ => by simp at h
  | [], _ :: _, h, _, _, _, _, _ => h.elim
  | _ :: _, [], h, _, _, _, _, _ => h.elim
  | r :: rs, x :: xs, h, i, r', x', hr, hx => by
    cases i with
    | zero => simp at hr hx; subst hr; subst hx; exact h.1
    | succ i => simp at hr hx; exact Each2.at_ h.2 i r' x' hr hx
/-- a literal of nodes -/
theorem NodesR.lit {w w' : World} {d n : Nat} (cells : Array Value) (E : TypeId) (rows : List (List Value)) (l : List Nd) (hw : w' = w.alloc (.cells cells E)) (hn : rows.length = n) (hm : n ≤ maxLen) (hc : cells.toList = rows.flatten) (hcs : cells.size = n * 6) (h : Each2 (NdQ (NodesR d) w') rows l) :
    NodesR (d + 1) w' (.slice (some ⟨w.heap.size, 0, none⟩) n n) l := by
  refine NodesR.of_rs ⟨rows, ?_, h.len, h.at_⟩
  rw [hn, ← hc, hw]
  exact Rd.of_own (base := w.heap.size) (World.ownsRow_lit w cells n (Nat.le_refl _) hm hcs)
end Go.Ox.Gr
namespace Go.Proofs.YtpmgmiiidfconaaGreatDoor
open Go.RowKit Go.Ox Go.Ox.Gr
set_option linter.unusedVariables false
set_option linter.unusedSimpArgs false
theorem reach_mem {n : Int} {w w0 w1 w2 w3 w4 w5 w6 w7 w8 : World}
    (h0 : w0 = w.alloc (.cells #[.slice (some ⟨w.heap.size + 1 + 1 + 1 + 1 + 1 + 1 + 1 + 1, 0, none⟩) 3 3, .int .i64 2] 39))
    (h1 : w1 = w0.alloc (.cells #[.int .i64 1] 3))
    (h2 : w2 = w1.alloc (.cells #[.int .i64 0, .int .i64 1] 3))
    (h3 : w3 = w2.alloc (.cells #[.int .i64 2] 3))
    (h4 : w4 = w3.alloc (.cells #[.int .i64 3] 3))
    (h5 : w5 = w4.alloc (.cells #[.int .i64 0, .int .i64 4] 3))
    (h6 : w6 = w5.alloc (.cells #[.int .i64 5] 3))
    (h7 : w7 = w6.alloc (.cells #[.int .i64 10, .slice none 0 0, .int .i64 0, .int .i64 0, .int .i64 0, .slice none 0 0, .int .i64 11, .slice none 0 0, .int .i64 0, .int .i64 0, .int .i64 0, .slice none 0 0,
      .int .i64 6, .slice (some ⟨w.heap.size + 1 + 1, 0, none⟩) 2 2, .int .i64 23, .int .i64 0, .int .i64 0, .slice none 0 0, .int .i64 2, .slice (some ⟨w.heap.size + 1 + 1 + 1, 0, none⟩) 1 1, .int .i64 3, .int .i64 0, .int .i64 0, .slice none 0 0,
      .int .i64 2, .slice (some ⟨w.heap.size + 1 + 1 + 1 + 1, 0, none⟩) 1 1, .int .i64 5, .int .i64 1, .int .i64 0, .slice none 0 0, .int .i64 8, .slice (some ⟨w.heap.size + 1 + 1 + 1 + 1 + 1, 0, none⟩) 2 2, .int .i64 0, .int .i64 0, .int .i64 0, .slice none 0 0,
      .int .i64 7, .slice (some ⟨w.heap.size + 1 + 1 + 1 + 1 + 1 + 1, 0, none⟩) 1 1, .int .i64 0, .int .i64 0, .int .i64 0, .slice none 0 0] 57))
    (h8 : w8 = w7.alloc (.cells #[.int .i64 1, .slice none 0 0, .int .i64 0, .int .i64 0, .int .i64 0, .slice none 0 0, .int .i64 1, .slice none 0 0, .int .i64 0, .int .i64 0, .int .i64 1, .slice none 0 0,
      .int .i64 9, .slice (some ⟨w.heap.size + 1, 0, none⟩) 1 1, .int .i64 0, .int .i64 0, .int .i64 n, .slice (some ⟨w.heap.size + 1 + 1 + 1 + 1 + 1 + 1 + 1, 0, none⟩) 7 7] 57)) :
    Blk w8 w.heap.size 39 #[.slice (some ⟨w.heap.size + 1 + 1 + 1 + 1 + 1 + 1 + 1 + 1, 0, none⟩) 3 3, .int .i64 2] ∧ NodesR 2 w8 (.slice (some ⟨w.heap.size + 1 + 1 + 1 + 1 + 1 + 1 + 1 + 1, 0, none⟩) 3 3) (reachN n) ∧ Ext w w8 := by
  have s0 : w0.heap.size = w.heap.size + 1 := by rw [h0]; simp
  have s1 : w1.heap.size = w.heap.size + 1 + 1 := by rw [h1, ← s0]; simp
  have s2 : w2.heap.size = w.heap.size + 1 + 1 + 1 := by rw [h2, ← s1]; simp
  have s3 : w3.heap.size = w.heap.size + 1 + 1 + 1 + 1 := by rw [h3, ← s2]; simp
  have s4 : w4.heap.size = w.heap.size + 1 + 1 + 1 + 1 + 1 := by rw [h4, ← s3]; simp
  have s5 : w5.heap.size = w.heap.size + 1 + 1 + 1 + 1 + 1 + 1 := by rw [h5, ← s4]; simp
  have s6 : w6.heap.size = w.heap.size + 1 + 1 + 1 + 1 + 1 + 1 + 1 := by rw [h6, ← s5]; simp
  have s7 : w7.heap.size = w.heap.size + 1 + 1 + 1 + 1 + 1 + 1 + 1 + 1 := by rw [h7, ← s6]; simp
  have b0 : Blk w0 w.heap.size 39 #[.slice (some ⟨w.heap.size + 1 + 1 + 1 + 1 + 1 + 1 + 1 + 1, 0, none⟩) 3 3, .int .i64 2] := by rw [h0]; exact Blk.new _ _ _
  have r1 : RE w1 (.slice (some ⟨w.heap.size + 1, 0, none⟩) 1 1) ([1] : List Int) := by rw [← s0, h1]; exact RE.lit w0 #[.int .i64 1] 3 1 [1] rfl (by omega) rfl
  have r2 : RE w2 (.slice (some ⟨w.heap.size + 1 + 1, 0, none⟩) 2 2) ([0, 1] : List Int) := by rw [← s1, h2]; exact RE.lit w1 #[.int .i64 0, .int .i64 1] 3 2 [0, 1] rfl (by omega) rfl
  have r3 : RE w3 (.slice (some ⟨w.heap.size + 1 + 1 + 1, 0, none⟩) 1 1) ([2] : List Int) := by rw [← s2, h3]; exact RE.lit w2 #[.int .i64 2] 3 1 [2] rfl (by omega) rfl
  have r4 : RE w4 (.slice (some ⟨w.heap.size + 1 + 1 + 1 + 1, 0, none⟩) 1 1) ([3] : List Int) := by rw [← s3, h4]; exact RE.lit w3 #[.int .i64 3] 3 1 [3] rfl (by omega) rfl
  have r5 : RE w5 (.slice (some ⟨w.heap.size + 1 + 1 + 1 + 1 + 1, 0, none⟩) 2 2) ([0, 4] : List Int) := by rw [← s4, h5]; exact RE.lit w4 #[.int .i64 0, .int .i64 4] 3 2 [0, 4] rfl (by omega) rfl
  have r6 : RE w6 (.slice (some ⟨w.heap.size + 1 + 1 + 1 + 1 + 1 + 1, 0, none⟩) 1 1) ([5] : List Int) := by rw [← s5, h6]; exact RE.lit w5 #[.int .i64 5] 3 1 [5] rfl (by omega) rfl
  have e1 : Ext w0 w1 := by rw [h1]; exact (Ext.refl _).alloc _
  have e2 : Ext w1 w2 := by rw [h2]; exact (Ext.refl _).alloc _
  have e3 : Ext w2 w3 := by rw [h3]; exact (Ext.refl _).alloc _
  have e4 : Ext w3 w4 := by rw [h4]; exact (Ext.refl _).alloc _
  have e5 : Ext w4 w5 := by rw [h5]; exact (Ext.refl _).alloc _
  have e6 : Ext w5 w6 := by rw [h6]; exact (Ext.refl _).alloc _
  have e7 : Ext w6 w7 := by rw [h7]; exact (Ext.refl _).alloc _
  have e8 : Ext w7 w8 := by rw [h8]; exact (Ext.refl _).alloc _
  have e0 : Ext w w0 := by rw [h0]; exact (Ext.refl _).alloc _
  have n7 : NodesR 1 w7 (.slice (some ⟨w.heap.size + 1 + 1 + 1 + 1 + 1 + 1 + 1, 0, none⟩) 7 7) reachB := by
    rw [← s6]
    refine NodesR.lit _ 57 [ndC 10 0 0 0 (.slice none 0 0) (.slice none 0 0), ndC 11 0 0 0 (.slice none 0 0) (.slice none 0 0), ndC 6 23 0 0 (.slice (some ⟨w.heap.size + 1 + 1, 0, none⟩) 2 2) (.slice none 0 0),
      ndC 2 3 0 0 (.slice (some ⟨w.heap.size + 1 + 1 + 1, 0, none⟩) 1 1) (.slice none 0 0), ndC 2 5 1 0 (.slice (some ⟨w.heap.size + 1 + 1 + 1 + 1, 0, none⟩) 1 1) (.slice none 0 0),
      ndC 8 0 0 0 (.slice (some ⟨w.heap.size + 1 + 1 + 1 + 1 + 1, 0, none⟩) 2 2) (.slice none 0 0), ndC 7 0 0 0 (.slice (some ⟨w.heap.size + 1 + 1 + 1 + 1 + 1 + 1, 0, none⟩) 1 1) (.slice none 0 0)] reachB h7 rfl (by unfold maxLen; omega) rfl rfl ?_
    have f2 := (((r2.ext e3).ext e4).ext e5).ext e6 |>.ext e7
    have f3 := ((r3.ext e4).ext e5).ext e6 |>.ext e7
    have f4 := (r4.ext e5).ext e6 |>.ext e7
    have f5 := (r5.ext e6).ext e7
    have f6 := r6.ext e7
    exact ⟨⟨rfl, NdQ.mk (OE.nilS 3 0 _).re (NodesR.nil _ _)⟩, ⟨rfl, NdQ.mk (OE.nilS 3 0 _).re (NodesR.nil _ _)⟩, ⟨rfl, NdQ.mk f2 (NodesR.nil _ _)⟩, ⟨rfl, NdQ.mk f3 (NodesR.nil _ _)⟩, ⟨rfl, NdQ.mk f4 (NodesR.nil _ _)⟩, ⟨rfl, NdQ.mk f5 (NodesR.nil _ _)⟩, ⟨rfl, NdQ.mk f6 (NodesR.nil _ _)⟩, trivial⟩
  refine ⟨(((((((b0.ext e1).ext e2).ext e3).ext e4).ext e5).ext e6).ext e7).ext e8, ?_, ((((((((e0.trans e1).trans e2).trans e3).trans e4).trans e5).trans e6).trans e7).trans e8)⟩
  rw [← s7]
  refine NodesR.lit _ 57 [ndC 1 0 0 0 (.slice none 0 0) (.slice none 0 0), ndC 1 0 0 1 (.slice none 0 0) (.slice none 0 0), ndC 9 0 0 n (.slice (some ⟨w.heap.size + 1, 0, none⟩) 1 1) (.slice (some ⟨w.heap.size + 1 + 1 + 1 + 1 + 1 + 1 + 1, 0, none⟩) 7 7)] (reachN n) h8 rfl (by unfold maxLen; omega) rfl rfl ?_
  have f1 := ((((((r1.ext e2).ext e3).ext e4).ext e5).ext e6).ext e7).ext e8
  exact ⟨⟨rfl, NdQ.mk (OE.nilS 3 0 _).re (NodesR.nil _ _)⟩, ⟨rfl, NdQ.mk (OE.nilS 3 0 _).re (NodesR.nil _ _)⟩, ⟨rfl, NdQ.mk f1 (n7.ext e8)⟩, trivial⟩
attribute [local irreducible] RE OE NodesR
end Go.Proofs.YtpmgmiiidfconaaGreatDoor
set_option linter.unusedVariables false
set_option linter.unusedSimpArgs false
namespace Go.Ox.La
open Go Go.Lib Go.Ox Go.Ox.Gr
def opsL : List W := [[], [105, 110, 112, 117, 116], [109, 97, 112], [116, 101, 115, 116], [115, 112, 114, 101, 97, 100], [102, 111, 108, 100], [112, 97, 105, 114], [100, 105, 115, 116, 105, 110, 99, 116], [99, 111, 110, 99, 97, 116], [108, 111, 111, 112], [118, 97, 114], [111, 117, 116, 101, 114]]
def fnsL : List W := [[], [97, 100, 100], [116, 105, 109, 101, 115], [115, 119, 97, 112], [107, 101, 121, 109, 111, 100], [118, 97, 108, 109, 111, 100], [118, 97, 108, 107, 101, 121], [108, 101, 97, 115, 116], [109, 111, 115, 116], [108, 101, 115, 115], [109, 111, 114, 101], [107, 101, 121], [111, 100, 100], [99, 111, 112, 105, 101, 115], [115, 116, 101, 112, 115], [98, 111, 116, 104], [115, 117, 109], [108, 101, 97, 115, 116], [109, 111, 115, 116], [99, 111, 117, 110, 116], [108, 101, 102, 116], [114, 105, 103, 104, 116], [115, 117, 109], [99, 114, 111, 115, 115]]
def countedB (op : Int) : Bool := op == 1 || (op == 9 || op == 11)
def standsB (op : Int) (body : Bool) : Bool := if op = 1 ∨ op = 9 then !body else if op = 10 ∨ op = 11 then body else decide (1 < op) && decide (op < 9)
def nameL (n : Nat) (body : Bool) : W := (if body = true then 98 else 110) :: Lib.decDigits n
def numT (op a : Int) : Bool := if op = 1 then decide (0 ≤ a) && decide (a < 4) else if op = 9 then decide (1 ≤ a) && decide (a ≤ 64) else if op = 11 then decide (0 ≤ a) else decide (a = 0)
def fnT (op kind fa : Int) : Bool := if fmly op = 0 then decide (kind = 0) && decide (fa = 0) else decide (fam kind fa = fmly op)
end Go.Ox.La
namespace Go.Proofs.YtpmgmiiidfconaaGreatDoor
open Go.RowKit Go.Ox Go.Ox.Gr Go.Ox.Sc Go.Ox.La Go.Shelf
def takesB (k : Int) : Bool := decide (fnE k 1 = 0)
/-- may a node be told? -/
def mayB (n : Nd) (body : Bool) : Bool := standsB n.op body && (decide ((n.ins.length : Int) = arity n.op) && (!anyI (fun x => decide (x < 0)) n.ins && ((decide (n.op = 9) || n.body.isEmpty) && (fnT n.op n.kind n.fa && numT n.op n.a))))
/-- a node's words -/
def nodeW (n : Nd) (at_ : Nat) (body : Bool) : List W :=
  [nameL at_ body, [61], opsL.getD n.op.toNat []] ++
  (if fmly n.op = 0 then [] else fnsL.getD n.kind.toNat [] :: (if takesB n.kind = true then [Lib.decDigits n.fa.toNat] else [])) ++
  (if n.op = 11 then [nameL n.a.toNat false] else if countedB n.op = true then [Lib.decDigits n.a.toNat] else []) ++
  n.ins.map fun i => nameL i.toNat body
attribute [local irreducible] RE OE
set_option maxRecDepth 100000 in
set_option maxHeartbeats 400000 in
theorem lfamily_any (op : Int) (w : World) : Calls Tryz.prog 41 #[.int .i64 op] w fun e w' => e = .returned (.int .i64 (fmly op)) ∧ w = w' := by
  rcases ops11 op with rfl | rfl | rfl | rfl | rfl | rfl | rfl | rfl | rfl | rfl | rfl | ho
  all_goals try (
    go_enter Tryz.func41, Tryz.ntmps41
    go_wp2
    go_ret
    exact ⟨rfl, rfl⟩)
  have HR := Lib.hid (show fmly op = 0 from by unfold fmly; repeat' split <;> omega)
  generalize fmly op = r at *
  by_cases h1 : 2 ≤ op
  · have h2 : ¬ op ≤ 6 := by omega
    clear ho
    go_enter Tryz.func41, Tryz.ntmps41
    go_wp2
    go_ret
    exact ⟨by rw [HR.out]; rfl, rfl⟩
  · clear ho
    go_enter Tryz.func41, Tryz.ntmps41
    go_wp2
    go_ret
    exact ⟨by rw [HR.out]; rfl, rfl⟩
set_option maxRecDepth 100000 in
set_option maxHeartbeats 400000 in
theorem lcounted_any (op : Int) (w : World) : Calls Tryz.prog 43 #[.int .i64 op] w fun e w' => e = .returned (.bool (countedB op)) ∧ w = w' := by
  rcases ops11 op with rfl | rfl | rfl | rfl | rfl | rfl | rfl | rfl | rfl | rfl | rfl | ho
  all_goals try (
    go_enter Tryz.func43, Tryz.ntmps43
    go_wp2
    go_ret
    exact ⟨rfl, rfl⟩)
  have h1 : ¬ op = 1 := by omega
  have h2 : ¬ op = 9 := by omega
  have h3 : ¬ op = 11 := by omega
  have HR := Lib.hid (show countedB op = false from by unfold countedB; simp [h1, h2, h3])
  generalize countedB op = r at *
  have b1 : (op == 1) = false := by simpa using h1
  have b2 : (op == 9) = false := by simpa using h2
  have b3 : (op == 11) = false := by simpa using h3
  clear ho
  go_enter Tryz.func43, Tryz.ntmps43
  go_wp2
  go_ret
  exact ⟨by rw [HR.out]; rfl, rfl⟩
set_option maxRecDepth 100000 in
set_option maxHeartbeats 400000 in
theorem lstands_any (op : Int) (body : Bool) (w : World) : Calls Tryz.prog 75 #[.int .i64 op, .bool body] w fun e w' => e = .returned (.bool (standsB op body)) ∧ w = w' := by
  rcases ops11 op with rfl | rfl | rfl | rfl | rfl | rfl | rfl | rfl | rfl | rfl | rfl | ho
  all_goals try (
    go_enter Tryz.func75, Tryz.ntmps75
    go_wp2
    go_ret
    exact ⟨rfl, rfl⟩)
  have h1 : ¬ op = 1 := by omega
  have h2 : ¬ op = 9 := by omega
  have h3 : ¬ op = 11 := by omega
  have h4 : ¬ op = 10 := by omega
  have HR := Lib.hid (show standsB op body = false from by unfold standsB; rw [if_neg (by omega), if_neg (by omega)]; simp; omega)
  generalize standsB op body = r at *
  by_cases h5 : 1 < op
  · have h6 : ¬ op < 9 := by omega
    clear ho
    go_enter Tryz.func75, Tryz.ntmps75
    go_wp2
    go_ret
    exact ⟨by rw [HR.out]; rfl, rfl⟩
  · clear ho
    go_enter Tryz.func75, Tryz.ntmps75
    go_wp2
    go_ret
    exact ⟨by rw [HR.out]; rfl, rfl⟩
set_option maxRecDepth 100000 in
set_option maxHeartbeats 400000 in
theorem ltakes_any (k : Int) (w : World) : Calls Tryz.prog 42 #[.int .i64 k] w fun e w' => e = .returned (.bool (takesB k)) ∧ Ext w w' := by
  have HC := Lib.hid (fun w => fnCheck k 1 w)
  have HR := Lib.hid (show takesB k = decide (fnE k 1 = 0) from rfl)
  generalize takesB k = r at *
  generalize fnE k 1 = x at *
  go_enter Tryz.func42, Tryz.ntmps42
  go_wp2_with fail
  refine (HC.out _).mono ?_
  rintro e w1 ⟨rfl, he⟩
  have HE := Lib.hid he
  clear he
  by_cases hx : x = 0
  · have HX := Lib.hid (show r = true from by rw [HR.out]; exact decide_eq_true hx)
    subst hx
    go_wp2
    go_ret
    exact ⟨by rw [HX.out]; rfl, HE.out⟩
  · have HX := Lib.hid (show r = false from by rw [HR.out]; exact decide_eq_false hx)
    have b0 : (x == 0) = false := by simpa using hx
    go_wp2
    go_ret
    exact ⟨by rw [HX.out]; rfl, HE.out⟩
set_option maxRecDepth 100000 in
set_option maxHeartbeats 400000 in
theorem lname_any (n : Nat) (body : Bool) (w : World) (hn : n < 9223372036854775808) (ht : Tab w) : Calls Tryz.prog 27 #[.int .i64 (n : Int), .bool body] w fun e w' => e = .returned (strV (nameL n body)) ∧ Ext w w' := by
  have HC := Lib.hid (itoa_any n hn w ht)
  have HL := Lib.hid (dec_len hn)
  have HR := Lib.hid (show nameL n body = (if body = true then [98] else [110]) ++ Lib.decDigits n from by unfold nameL; cases body <;> rfl)
  generalize nameL n body = r at *
  generalize Lib.decDigits n = D at *
  clear hn ht
  cases body with
  | true =>
    go_enter Tryz.func27, Tryz.ntmps27
    go_wp2_with fail
    refine HC.out.mono ?_
    rintro e w1 ⟨rfl, he⟩
    have ha : (Op.stringOp .add ⟨#[98]⟩ ⟨D.toArray⟩).run Tryz.prog w1 = .ok (strV ([98] ++ D)) w1 := add_str (t := 9) [98] D w1 (by have := HL.out; simp; omega)
    have HE := Lib.hid he
    clear he
    go_wp2
    go_ret
    exact ⟨by rw [HR.out]; rfl, HE.out⟩
  | false =>
    go_enter Tryz.func27, Tryz.ntmps27
    go_wp2_with fail
    refine HC.out.mono ?_
    rintro e w1 ⟨rfl, he⟩
    have ha : (Op.stringOp .add ⟨#[110]⟩ ⟨D.toArray⟩).run Tryz.prog w1 = .ok (strV ([110] ++ D)) w1 := add_str (t := 9) [110] D w1 (by have := HL.out; simp; omega)
    have HE := Lib.hid he
    clear he
    go_wp2
    go_ret
    exact ⟨by rw [HR.out]; rfl, HE.out⟩
set_option maxRecDepth 100000 in
set_option maxHeartbeats 400000 in
theorem lbelow_any (x : Int) (w : World) : Calls Tryz.prog 74 #[.int .i64 x] w fun e w' => e = .returned (.bool (decide (x < 0))) ∧ Ext w w' := by
  have HE := Lib.hid (Ext.refl w)
  by_cases h : x < 0
  · have HR := Lib.hid (show decide (x < 0) = true from decide_eq_true h)
    generalize decide (x < 0) = r at *
    go_enter Tryz.func74, Tryz.ntmps74
    go_wp2
    go_ret
    exact ⟨by rw [HR.out]; rfl, HE.out⟩
  · have HR := Lib.hid (show decide (x < 0) = false from decide_eq_false h)
    generalize decide (x < 0) = r at *
    go_enter Tryz.func74, Tryz.ntmps74
    go_wp2
    go_ret
    exact ⟨by rw [HR.out]; rfl, HE.out⟩
end Go.Proofs.YtpmgmiiidfconaaGreatDoor
set_option linter.unusedVariables false
set_option linter.unusedSimpArgs false
namespace Go.Proofs.YtpmgmiiidfconaaGreatDoor
open Go.RowKit Go.Ox Go.Ox.Gr Go.Ox.Sc Go.Ox.La Go.Shelf
attribute [local irreducible] RE OE
set_option maxRecDepth 100000 in
set_option maxHeartbeats 4000000 in
theorem lfunction_any (op kind fa a : Int) (u b : Value) (w : World) (h : fnT op kind fa = true) :
    Calls Tryz.prog 78 #[ndAg op kind fa a u b] w fun e w' => e = .returned (.bool true) ∧ Ext w w' := by
  have hal := (Ext.refl w).alloc (ndCs op kind fa a u b)
  have HX := Lib.hid hal
  obtain ⟨c0, c1, c2, c3, c4, c5⟩ := (Bx6.new w 57 (.int .i64 op) u (.int .i64 kind) (.int .i64 fa) (.int .i64 a) b).at_
  have HF := Lib.hid (fun w => fnFamily kind fa w)
  have HG := Lib.hid (fun w => lfamily_any op w)
  have heq := eqF
  unfold fnT at h
  by_cases hF : fmly op = 0
  · rw [if_pos hF, Bool.and_eq_true, decide_eq_true_eq, decide_eq_true_eq] at h
    obtain ⟨rfl, rfl⟩ := h
    rw [hF] at HG
    clear HF hal hF
    go_enter Tryz.func78, Tryz.ntmps78
    go_wp2_with fail
    refine (HG.out _).mono ?_
    rintro e w1 ⟨rfl, rfl⟩
    go_wp2
    go_ret
    exact ⟨rfl, HX.out⟩
  · rw [if_neg hF, decide_eq_true_eq] at h
    generalize fmly op = r at *
    rw [h] at HF
    clear h
    have hb : (r == 0) = false := by simpa using hF
    have hbb : (r == r) = true := by simp
    go_enter Tryz.func78, Tryz.ntmps78
    go_wp2_with fail
    refine (HG.out _).mono ?_
    rintro e w1 ⟨rfl, he1⟩
    generalize w.heap.size = p at *
    generalize w.alloc (ndCs op kind fa a u b) = w2 at *
    subst he1
    clear hal
    go_wp2
    refine yx ?_
    refine ya ?_
    refine yl2 c2 c3 ?_
    refine yc1 (.int .i64 r) (fun w' _ => HF.out w') ?_
    refine ya ?_
    refine yl1 c0 ?_
    refine yd1 (.int .i64 r) (fun w' _ => HG.out w') ?_
    refine ya ?_
    refine wpY_done ?_
    intro wz hx hS
    iterate 8 (rintro _ rfl)
    dsimp only [FinV]
    go_simp
    have hx : Ext w2 wz := hx
    go_wp2
    go_ret
    exact ⟨rfl, HX.out.trans hx⟩
set_option maxRecDepth 100000 in
set_option maxHeartbeats 4000000 in
theorem lnumber_any (op kind fa a : Int) (u b : Value) (w : World) (h : numT op a = true) :
    Calls Tryz.prog 79 #[ndAg op kind fa a u b] w fun e w' => e = .returned (.bool true) ∧ Ext w w' := by
  have HX := Lib.hid ((Ext.refl w).alloc (ndCs op kind fa a u b))
  obtain ⟨c0, c1, c2, c3, c4, c5⟩ := (Bx6.new w 57 (.int .i64 op) u (.int .i64 kind) (.int .i64 fa) (.int .i64 a) b).at_
  unfold numT at h
  by_cases o1 : op = 1
  · subst o1
    rw [if_pos rfl, Bool.and_eq_true, decide_eq_true_eq, decide_eq_true_eq] at h
    obtain ⟨h1, h2⟩ := h
    go_enter Tryz.func79, Tryz.ntmps79
    go_wp2
    go_ret
    exact ⟨rfl, HX.out⟩
  rw [if_neg o1] at h
  by_cases o9 : op = 9
  · subst o9
    rw [if_pos rfl, Bool.and_eq_true, decide_eq_true_eq, decide_eq_true_eq] at h
    obtain ⟨h1, h2⟩ := h
    go_enter Tryz.func79, Tryz.ntmps79
    go_wp2
    go_ret
    exact ⟨rfl, HX.out⟩
  rw [if_neg o9] at h
  by_cases o11 : op = 11
  · subst o11
    rw [if_pos rfl, decide_eq_true_eq] at h
    go_enter Tryz.func79, Tryz.ntmps79
    go_wp2
    go_ret
    exact ⟨rfl, HX.out⟩
  rw [if_neg o11, decide_eq_true_eq] at h
  subst h
  have b1 : (op == 1) = false := by simpa using o1
  have b2 : (op == 9) = false := by simpa using o9
  have b3 : (op == 11) = false := by simpa using o11
  go_enter Tryz.func79, Tryz.ntmps79
  go_wp2
  go_ret
  exact ⟨rfl, HX.out⟩
theorem eg_below : ∀ args w, (callFunc 74 args).run Tryz.prog w = .ok (.enter 74 args) w := enters_of Tryz.func74 (by kernel_rfl) rfl
set_option maxRecDepth 100000 in
set_option maxHeartbeats 8000000 in
theorem lmay_any (op kind fa a : Int) (u b : Value) (ins : List Int) (bd : List Nd) (at_ : Nat) (body : Bool) (w : World) (hu : RE w u ins) (hb : ∃ A c, b = .slice A bd.length c) (h : mayB (.mk op ins kind fa a bd) body = true) (hl : ins.length ≤ 1000000) :
    Calls Tryz.prog 40 #[ndAg op kind fa a u b, .int .i64 (at_ : Int), .bool body] w fun e w' => e = .returned (.bool true) ∧ Ext w w' := by
  obtain ⟨Ab, cb, rfl⟩ := hb
  have hal := (Ext.refl w).alloc (ndCs op kind fa a u (.slice Ab bd.length cb))
  have HX := Lib.hid hal
  obtain ⟨c0, c1, c2, c3, c4, c5⟩ := (Bx6.new w 57 (.int .i64 op) u (.int .i64 kind) (.int .i64 fa) (.int .i64 a) (.slice Ab bd.length cb)).at_
  obtain ⟨h1, h2, h3, h4, h5, h6⟩ : standsB op body = true ∧ (ins.length : Int) = arity op ∧ anyI (fun x => decide (x < 0)) ins = false ∧ (decide (op = 9) || bd.isEmpty) = true ∧ fnT op kind fa = true ∧ numT op a = true := by
    unfold mayB at h
    rw [Bool.and_eq_true, Bool.and_eq_true, Bool.and_eq_true, Bool.and_eq_true, Bool.and_eq_true] at h
    obtain ⟨h1, h2, h3, h4, h5, h6⟩ := h
    exact ⟨h1, of_decide_eq_true h2, (by rw [Bool.not_eq_true'] at h3; exact h3), h4, h5, h6⟩
  have HS := Lib.hid (fun w => lstands_any op body w)
  rw [h1] at HS
  have HA := Lib.hid (fun w => gArity_any op w)
  rw [← h2] at HA
  have HU := Lib.hid (RE.ext hu hal)
  have HI := Lib.hid (fun w (h : RE w u ins) => containsI_any (fun x => decide (x < 0)) 74 #[] eg_below u ins w h (by omega) (fun x W _ => lbelow_any x W))
  rw [h3] at HI
  have HF := Lib.hid (fun w => lfunction_any op kind fa a u (.slice Ab bd.length cb) w h5)
  have HN := Lib.hid (fun w => lnumber_any op kind fa a u (.slice Ab bd.length cb) w h6)
  obtain ⟨A, c, rfl⟩ := hu.form
  have q0 : ¬ (at_ : Int) < 0 := by omega
  have q1 : decide ((at_ : Int) < 0) = false := decide_eq_false q0
  have q2 : ((ins.length : Int) == (ins.length : Int)) = true := by simp
  clear h1 h2 h3 h5 h6 hu hal hl
  go_enter Tryz.func40, Tryz.ntmps40
  go_upto_region 2 with fail
  generalize w.heap.size = p at *
  generalize w.alloc (ndCs op kind fa a (.slice A ins.length c) (.slice Ab bd.length cb)) = w2 at *
  go_wp2
  refine yx ?_
  refine ya ?_
  refine yl1 c0 ?_
  refine ya ?_
  refine yd2 (.bool true) (fun w' _ => HS.out w') ?_
  refine ya ?_
  refine yl1 c1 ?_
  refine ya ?_
  refine yl1 c0 ?_
  refine yc1 (.int .i64 (ins.length : Int)) (fun w' _ => HA.out w') ?_
  refine ya ?_
  refine yl1 c1 ?_
  refine ya ?_
  refine yc2 (.bool false) (fun w' hR => HI.out w' (RE.ext HU.out hR)) ?_
  refine ya ?_
  refine wpY_done ?_
  intro wz hx hS
  iterate 24 (rintro _ rfl)
  dsimp only [FinV]
  go_simp
  have hx : Ext w2 wz := hx
  have HXZ := Lib.hid (HX.out.trans hx)
  have c0 := hx.cell c0
  have c1 := hx.cell c1
  have c2 := hx.cell c2
  have c3 := hx.cell c3
  have c4 := hx.cell c4
  have c5 := hx.cell c5
  clear hx hS
  by_cases o9 : op = 9
  · subst o9
    clear h4
    go_wp2_with fail
    refine (HF.out _).mono ?_
    rintro e w5 ⟨rfl, he5⟩
    have HX5 := Lib.hid (HXZ.out.trans he5)
    have c0 := he5.cell c0
    have c1 := he5.cell c1
    have c2 := he5.cell c2
    have c3 := he5.cell c3
    have c4 := he5.cell c4
    have c5 := he5.cell c5
    clear he5
    go_wp2_with fail
    refine (HN.out _).mono ?_
    rintro e w6 ⟨rfl, he6⟩
    have HX6 := Lib.hid (HX5.out.trans he6)
    clear he6
    go_wp2
    go_ret
    exact ⟨rfl, HX6.out⟩
  · have h5 : bd = [] := by
      rcases Bool.or_eq_true_iff.1 h4 with h | h
      · exact absurd (of_decide_eq_true h) o9
      · cases bd with
        | nil => rfl
        | cons _ _ => simp at h
    subst h5
    have b9 : (op == 9) = false := by simpa using o9
    have b8 : (op != 9) = true := by simpa using o9
    clear h4
    go_wp2_with fail
    refine (HF.out _).mono ?_
    rintro e w5 ⟨rfl, he5⟩
    have HX5 := Lib.hid (HXZ.out.trans he5)
    have c0 := he5.cell c0
    have c1 := he5.cell c1
    have c2 := he5.cell c2
    have c3 := he5.cell c3
    have c4 := he5.cell c4
    have c5 := he5.cell c5
    clear he5
    go_wp2_with fail
    refine (HN.out _).mono ?_
    rintro e w6 ⟨rfl, he6⟩
    have HX6 := Lib.hid (HX5.out.trans he6)
    clear he6
    go_wp2
    go_ret
    exact ⟨rfl, HX6.out⟩
end Go.Proofs.YtpmgmiiidfconaaGreatDoor
