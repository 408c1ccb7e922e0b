/-
  GrChk, packed: what the claim needs of them.
-/
import Derived.Test.YtpmgmiiidfconaaGreatDoorPz06
namespace Go.Proofs.YtpmgmiiidfconaaGreatDoor
open Go.RowKit Go.Ox Go.Ox.Gr
set_option linter.unusedVariables false
set_option linter.unusedSimpArgs false
attribute [local irreducible] RE NodesR
def anyI (p : Int → Bool) (l : List Int) : Bool := l.any p
theorem anyI_s (p : Int → Bool) (l : List Int) {k : Nat} (h : k < l.length) : anyI p (l.take (k + 1)) = (anyI p (l.take k) || p l[k]) := by
  unfold anyI
  rw [List.take_succ_eq_append_getElem h, List.any_append]
  simp
set_option maxRecDepth 100000 in
set_option maxHeartbeats 2000000 in
theorem indexI_any (p : Int → Bool) (g : Nat) (lb : Array Value) (eg : ∀ args w, (callFunc g args).run Tryz.prog w = .ok (.enter g args) w) (v : Value) (l : List Int) (w : World) (hv : RE w v l) (hl : l.length ≤ 1000000000)
    (hcl : ∀ x W, Ext w W → Calls Tryz.prog g (#[.int .i64 x] ++ lb) W fun e W' => e = .returned (.bool (p x)) ∧ Ext W W') :
    Calls Tryz.prog 105 #[v, .func (.func g) #[] lb] w fun e w' => Ext w w' ∧ ((e = .returned (.int .i64 (-1)) ∧ anyI p l = false) ∨ ∃ k : Nat, e = .returned (.int .i64 (k : Int)) ∧ anyI p l = true) := by
  obtain ⟨A, c, rfl⟩ := hv.form
  have HV := Lib.hid hv
  have HCL := Lib.hid hcl
  clear hv hcl
  go_enter Tryz.func105, Tryz.ntmps105
  go_wp2
  go_loopw [8] (fun iv wr => ∃ k : Nat, k ≤ l.length ∧ iv = .int .i64 (k : Int) ∧ anyI p (l.take k) = false ∧ Ext w wr) (fun iv _ => l.length - (intOf iv).toNat)
  case atStart => exact ⟨0, Nat.zero_le _, rfl, rfl, Ext.refl _⟩
  case round =>
    obtain ⟨k, hk, rfl, hp, hext⟩ := hrel
    have HP := Lib.hid hp
    have HE := Lib.hid hext
    clear hp
    by_cases hlt : k < l.length
    · have g1 : (k : Int) < (l.length : Int) := by omega
      have g0 : 0 ≤ (k : Int) := by omega
      have g1n : k < l.length := hlt
      have HLT := Lib.hid hlt
      obtain ⟨bA, oA, rfl, c0⟩ := ri1 (HV.out.ext hext) hlt
      have HS := Lib.hid (show anyI p (l.take (k + 1)) = p l[k] by rw [anyI_s p l hlt, HP.out]; rfl)
      have HT := Lib.hid (show p l[k] = true → anyI p l = true from fun h => List.any_eq_true.2 ⟨_, List.getElem_mem hlt, h⟩)
      have HC := Lib.hid (HCL.out l[k] wr hext)
      generalize l[k] = x at *
      clear hext hk hlt
      cases hd : p x with
      | true =>
        rw [hd] at HC
        have HR := Lib.hid (HT.out hd)
        clear hd
        go_wp2_with fail
        refine HC.out.mono ?_
        rintro e w1 ⟨rfl, he1⟩
        go_wp2
        go_ret
        exact ⟨HE.out.trans he1, .inr ⟨k, rfl, HR.out⟩⟩
      | false =>
        rw [hd] at HC HS
        clear hd
        go_wp2_with fail
        refine HC.out.mono ?_
        rintro e w1 ⟨rfl, he1⟩
        go_wp2
        exact ⟨⟨k + 1, HLT.out, by go_num, HS.out, HE.out.trans he1⟩, by have := HLT.out; simp [intOf]; omega⟩
    · obtain rfl : k = l.length := by omega
      have g1 : ¬ (l.length : Int) < (l.length : Int) := by omega
      rw [List.take_length] at HP
      clear hext
      go_wp2
      go_ret
      exact ⟨HE.out, .inl ⟨rfl, HP.out⟩⟩
set_option maxRecDepth 100000 in
set_option maxHeartbeats 1000000 in
theorem containsI_any (p : Int → Bool) (g : Nat) (lb : Array Value) (eg : ∀ args w, (callFunc g args).run Tryz.prog w = .ok (.enter g args) w) (v : Value) (l : List Int) (w : World) (hv : RE w v l) (hl : l.length ≤ 1000000000)
    (hcl : ∀ x W, Ext w W → Calls Tryz.prog g (#[.int .i64 x] ++ lb) W fun e W' => e = .returned (.bool (p x)) ∧ Ext W W') :
    Calls Tryz.prog 77 #[v, .func (.func g) #[] lb] w fun e w' => e = .returned (.bool (anyI p l)) ∧ Ext w w' := by
  have HI := Lib.hid (indexI_any p g lb eg v l w hv hl hcl)
  obtain ⟨A, c, rfl⟩ := hv.form
  clear hv hcl eg
  generalize anyI p l = a at *
  go_enter Tryz.func77, Tryz.ntmps77
  go_wp2_with fail
  refine HI.out.mono ?_
  rintro e w1 ⟨he1, ⟨rfl, rfl⟩ | ⟨k, rfl, rfl⟩⟩
  · go_wp2
    go_ret
    exact ⟨rfl, he1⟩
  · have g0 : 0 ≤ (k : Int) := by omega
    go_wp2
    go_ret
    exact ⟨rfl, he1⟩
abbrev ndAg (op kind fa a : Int) (u b : Value) : Value := .agg #[.int .i64 op, u, .int .i64 kind, .int .i64 fa, .int .i64 a, b]
abbrev ndCs (op kind fa a : Int) (u b : Value) : Obj := .cells #[.int .i64 op, u, .int .i64 kind, .int .i64 fa, .int .i64 a, b] 57
def numB (op a loop : Int) : Bool :=
  if op = 1 then decide (loop < 0) && (decide (0 ≤ a) && decide (a < 4))
  else if op = 9 then decide (loop < 0) && (decide (1 ≤ a) && decide (a ≤ 64))
  else if op = 10 then decide (0 ≤ loop) && decide (a = 0)
  else if op = 11 then decide (0 ≤ loop) && (decide (0 ≤ a) && decide (a < loop))
  else decide (a = 0)
theorem numB_eq (n : Nd) (loop : Int) : numOk n loop = numB n.op n.a loop := rfl
structure Bx6 (w : World) (p : Nat) (T : TypeId) (c0 c1 c2 c3 c4 c5 : Value) : Prop where
  b : Blk w p T #[c0, c1, c2, c3, c4, c5]
theorem Bx6.at_ {w : World} {p : Nat} {T : TypeId} {c0 c1 c2 c3 c4 c5 : Value} (h : Bx6 w p T c0 c1 c2 c3 c4 c5) :
    w.cell? ⟨p, 0, none⟩ = some c0 ∧ w.cell? ⟨p, 1, none⟩ = some c1 ∧ w.cell? ⟨p, 2, none⟩ = some c2 ∧ w.cell? ⟨p, 3, none⟩ = some c3 ∧ w.cell? ⟨p, 4, none⟩ = some c4 ∧ w.cell? ⟨p, 5, none⟩ = some c5 :=
  ⟨h.b.cell 0, h.b.cell 1, h.b.cell 2, h.b.cell 3, h.b.cell 4, h.b.cell 5⟩
theorem Bx6.ext {w w' : World} {p : Nat} {T : TypeId} {c0 c1 c2 c3 c4 c5 : Value} (h : Bx6 w p T c0 c1 c2 c3 c4 c5) (he : Ext w w') : Bx6 w' p T c0 c1 c2 c3 c4 c5 := ⟨h.b.ext he⟩
theorem Bx6.new (w : World) (T : TypeId) (c0 c1 c2 c3 c4 c5 : Value) : Bx6 (w.alloc (.cells #[c0, c1, c2, c3, c4, c5] T)) w.heap.size T c0 c1 c2 c3 c4 c5 := ⟨Blk.new _ _ _⟩
set_option maxRecDepth 100000 in
set_option maxHeartbeats 400000 in
theorem number_0 (op kind fa a loop : Int) (u b : Value) (w : World) (hl : 0 ≤ loop) :
    Calls Tryz.prog 139 #[ndAg 1 kind fa a u b, .int .i64 loop] w fun e w' => e = .returned (.bool false) ∧ Ext w w' := by
  have HX := Lib.hid ((Ext.refl w).alloc (ndCs 1 kind fa a u b))
  obtain ⟨c0, c1, c2, c3, c4, c5⟩ := (Bx6.new w 57 (.int .i64 1) u (.int .i64 kind) (.int .i64 fa) (.int .i64 a) b).at_
  have hn : ¬ loop = -1 := by omega
  have hnb : (loop != -1) = true := by simpa using hn
  go_enter Tryz.func139, Tryz.ntmps139
  go_wp2
  go_ret
  exact ⟨rfl, HX.out⟩
set_option maxRecDepth 100000 in
set_option maxHeartbeats 400000 in
theorem number_1 (op kind fa a loop : Int) (u b : Value) (w : World) (h0 : ¬ 0 ≤ a) :
    Calls Tryz.prog 139 #[ndAg 1 kind fa a u b, .int .i64 (-1)] w fun e w' => e = .returned (.bool false) ∧ Ext w w' := by
  have HX := Lib.hid ((Ext.refl w).alloc (ndCs 1 kind fa a u b))
  obtain ⟨c0, c1, c2, c3, c4, c5⟩ := (Bx6.new w 57 (.int .i64 1) u (.int .i64 kind) (.int .i64 fa) (.int .i64 a) b).at_
  go_enter Tryz.func139, Tryz.ntmps139
  go_wp2
  go_ret
  exact ⟨rfl, HX.out⟩
set_option maxRecDepth 100000 in
set_option maxHeartbeats 400000 in
theorem number_2 (op kind fa a loop : Int) (u b : Value) (w : World) (h0 : 0 ≤ a) (h1 : a < 4) :
    Calls Tryz.prog 139 #[ndAg 1 kind fa a u b, .int .i64 (-1)] w fun e w' => e = .returned (.bool true) ∧ Ext w w' := by
  have HX := Lib.hid ((Ext.refl w).alloc (ndCs 1 kind fa a u b))
  obtain ⟨c0, c1, c2, c3, c4, c5⟩ := (Bx6.new w 57 (.int .i64 1) u (.int .i64 kind) (.int .i64 fa) (.int .i64 a) b).at_
  go_enter Tryz.func139, Tryz.ntmps139
  go_wp2
  go_ret
  exact ⟨rfl, HX.out⟩
set_option maxRecDepth 100000 in
set_option maxHeartbeats 400000 in
theorem number_3 (op kind fa a loop : Int) (u b : Value) (w : World) (h0 : 0 ≤ a) (h1 : ¬ a < 4) :
    Calls Tryz.prog 139 #[ndAg 1 kind fa a u b, .int .i64 (-1)] w fun e w' => e = .returned (.bool false) ∧ Ext w w' := by
  have HX := Lib.hid ((Ext.refl w).alloc (ndCs 1 kind fa a u b))
  obtain ⟨c0, c1, c2, c3, c4, c5⟩ := (Bx6.new w 57 (.int .i64 1) u (.int .i64 kind) (.int .i64 fa) (.int .i64 a) b).at_
  go_enter Tryz.func139, Tryz.ntmps139
  go_wp2
  go_ret
  exact ⟨rfl, HX.out⟩
set_option maxRecDepth 100000 in
set_option maxHeartbeats 400000 in
theorem number_4 (op kind fa a loop : Int) (u b : Value) (w : World) (hl : 0 ≤ loop) :
    Calls Tryz.prog 139 #[ndAg 9 kind fa a u b, .int .i64 loop] w fun e w' => e = .returned (.bool false) ∧ Ext w w' := by
  have HX := Lib.hid ((Ext.refl w).alloc (ndCs 9 kind fa a u b))
  obtain ⟨c0, c1, c2, c3, c4, c5⟩ := (Bx6.new w 57 (.int .i64 9) u (.int .i64 kind) (.int .i64 fa) (.int .i64 a) b).at_
  have hn : ¬ loop = -1 := by omega
  have hnb : (loop != -1) = true := by simpa using hn
  go_enter Tryz.func139, Tryz.ntmps139
  go_wp2
  go_ret
  exact ⟨rfl, HX.out⟩
set_option maxRecDepth 100000 in
set_option maxHeartbeats 400000 in
theorem number_5 (op kind fa a loop : Int) (u b : Value) (w : World) (h0 : ¬ 1 ≤ a) :
    Calls Tryz.prog 139 #[ndAg 9 kind fa a u b, .int .i64 (-1)] w fun e w' => e = .returned (.bool false) ∧ Ext w w' := by
  have HX := Lib.hid ((Ext.refl w).alloc (ndCs 9 kind fa a u b))
  obtain ⟨c0, c1, c2, c3, c4, c5⟩ := (Bx6.new w 57 (.int .i64 9) u (.int .i64 kind) (.int .i64 fa) (.int .i64 a) b).at_
  go_enter Tryz.func139, Tryz.ntmps139
  go_wp2
  go_ret
  exact ⟨rfl, HX.out⟩
set_option maxRecDepth 100000 in
set_option maxHeartbeats 400000 in
theorem number_6 (op kind fa a loop : Int) (u b : Value) (w : World) (h0 : 1 ≤ a) (h1 : a ≤ 64) :
    Calls Tryz.prog 139 #[ndAg 9 kind fa a u b, .int .i64 (-1)] w fun e w' => e = .returned (.bool true) ∧ Ext w w' := by
  have HX := Lib.hid ((Ext.refl w).alloc (ndCs 9 kind fa a u b))
  obtain ⟨c0, c1, c2, c3, c4, c5⟩ := (Bx6.new w 57 (.int .i64 9) u (.int .i64 kind) (.int .i64 fa) (.int .i64 a) b).at_
  go_enter Tryz.func139, Tryz.ntmps139
  go_wp2
  go_ret
  exact ⟨rfl, HX.out⟩
set_option maxRecDepth 100000 in
set_option maxHeartbeats 400000 in
theorem number_7 (op kind fa a loop : Int) (u b : Value) (w : World) (h0 : 1 ≤ a) (h1 : ¬ a ≤ 64) :
    Calls Tryz.prog 139 #[ndAg 9 kind fa a u b, .int .i64 (-1)] w fun e w' => e = .returned (.bool false) ∧ Ext w w' := by
  have HX := Lib.hid ((Ext.refl w).alloc (ndCs 9 kind fa a u b))
  obtain ⟨c0, c1, c2, c3, c4, c5⟩ := (Bx6.new w 57 (.int .i64 9) u (.int .i64 kind) (.int .i64 fa) (.int .i64 a) b).at_
  go_enter Tryz.func139, Tryz.ntmps139
  go_wp2
  go_ret
  exact ⟨rfl, HX.out⟩
set_option maxRecDepth 100000 in
set_option maxHeartbeats 400000 in
theorem number_8 (op kind fa a loop : Int) (u b : Value) (w : World) :
    Calls Tryz.prog 139 #[ndAg 10 kind fa a u b, .int .i64 (-1)] w fun e w' => e = .returned (.bool false) ∧ Ext w w' := by
  have HX := Lib.hid ((Ext.refl w).alloc (ndCs 10 kind fa a u b))
  obtain ⟨c0, c1, c2, c3, c4, c5⟩ := (Bx6.new w 57 (.int .i64 10) u (.int .i64 kind) (.int .i64 fa) (.int .i64 a) b).at_
  go_enter Tryz.func139, Tryz.ntmps139
  go_wp2
  go_ret
  exact ⟨rfl, HX.out⟩
set_option maxRecDepth 100000 in
set_option maxHeartbeats 400000 in
theorem number_9 (op kind fa a loop : Int) (u b : Value) (w : World) (hl : 0 ≤ loop) (h0 : a = 0) :
    Calls Tryz.prog 139 #[ndAg 10 kind fa a u b, .int .i64 loop] w fun e w' => e = .returned (.bool true) ∧ Ext w w' := by
  have HX := Lib.hid ((Ext.refl w).alloc (ndCs 10 kind fa a u b))
  obtain ⟨c0, c1, c2, c3, c4, c5⟩ := (Bx6.new w 57 (.int .i64 10) u (.int .i64 kind) (.int .i64 fa) (.int .i64 a) b).at_
  have hn : ¬ loop = -1 := by omega
  have hnb : (loop != -1) = true := by simpa using hn
  subst h0
  go_enter Tryz.func139, Tryz.ntmps139
  go_wp2
  go_ret
  exact ⟨rfl, HX.out⟩
set_option maxRecDepth 100000 in
set_option maxHeartbeats 400000 in
theorem number_10 (op kind fa a loop : Int) (u b : Value) (w : World) (hl : 0 ≤ loop) (h0 : ¬ a = 0) :
    Calls Tryz.prog 139 #[ndAg 10 kind fa a u b, .int .i64 loop] w fun e w' => e = .returned (.bool false) ∧ Ext w w' := by
  have HX := Lib.hid ((Ext.refl w).alloc (ndCs 10 kind fa a u b))
  obtain ⟨c0, c1, c2, c3, c4, c5⟩ := (Bx6.new w 57 (.int .i64 10) u (.int .i64 kind) (.int .i64 fa) (.int .i64 a) b).at_
  have hn : ¬ loop = -1 := by omega
  have hnb : (loop != -1) = true := by simpa using hn
  have hb0 : (a == 0) = false := by simpa using h0
  go_enter Tryz.func139, Tryz.ntmps139
  go_wp2
  go_ret
  exact ⟨rfl, HX.out⟩
set_option maxRecDepth 100000 in
set_option maxHeartbeats 400000 in
theorem number_11 (op kind fa a loop : Int) (u b : Value) (w : World) :
    Calls Tryz.prog 139 #[ndAg 11 kind fa a u b, .int .i64 (-1)] w fun e w' => e = .returned (.bool false) ∧ Ext w w' := by
  have HX := Lib.hid ((Ext.refl w).alloc (ndCs 11 kind fa a u b))
  obtain ⟨c0, c1, c2, c3, c4, c5⟩ := (Bx6.new w 57 (.int .i64 11) u (.int .i64 kind) (.int .i64 fa) (.int .i64 a) b).at_
  go_enter Tryz.func139, Tryz.ntmps139
  go_wp2
  go_ret
  exact ⟨rfl, HX.out⟩
set_option maxRecDepth 100000 in
set_option maxHeartbeats 400000 in
theorem number_12 (op kind fa a loop : Int) (u b : Value) (w : World) (hl : 0 ≤ loop) (h0 : ¬ 0 ≤ a) :
    Calls Tryz.prog 139 #[ndAg 11 kind fa a u b, .int .i64 loop] w fun e w' => e = .returned (.bool false) ∧ Ext w w' := by
  have HX := Lib.hid ((Ext.refl w).alloc (ndCs 11 kind fa a u b))
  obtain ⟨c0, c1, c2, c3, c4, c5⟩ := (Bx6.new w 57 (.int .i64 11) u (.int .i64 kind) (.int .i64 fa) (.int .i64 a) b).at_
  have hn : ¬ loop = -1 := by omega
  have hnb : (loop != -1) = true := by simpa using hn
  go_enter Tryz.func139, Tryz.ntmps139
  go_wp2
  go_ret
  exact ⟨rfl, HX.out⟩
set_option maxRecDepth 100000 in
set_option maxHeartbeats 400000 in
theorem number_13 (op kind fa a loop : Int) (u b : Value) (w : World) (hl : 0 ≤ loop) (h0 : 0 ≤ a) (h1 : a < loop) :
    Calls Tryz.prog 139 #[ndAg 11 kind fa a u b, .int .i64 loop] w fun e w' => e = .returned (.bool true) ∧ Ext w w' := by
  have HX := Lib.hid ((Ext.refl w).alloc (ndCs 11 kind fa a u b))
  obtain ⟨c0, c1, c2, c3, c4, c5⟩ := (Bx6.new w 57 (.int .i64 11) u (.int .i64 kind) (.int .i64 fa) (.int .i64 a) b).at_
  have hn : ¬ loop = -1 := by omega
  have hnb : (loop != -1) = true := by simpa using hn
  go_enter Tryz.func139, Tryz.ntmps139
  go_wp2
  go_ret
  exact ⟨rfl, HX.out⟩
set_option maxRecDepth 100000 in
set_option maxHeartbeats 400000 in
theorem number_14 (op kind fa a loop : Int) (u b : Value) (w : World) (hl : 0 ≤ loop) (h0 : 0 ≤ a) (h1 : ¬ a < loop) :
    Calls Tryz.prog 139 #[ndAg 11 kind fa a u b, .int .i64 loop] w fun e w' => e = .returned (.bool false) ∧ Ext w w' := by
  have HX := Lib.hid ((Ext.refl w).alloc (ndCs 11 kind fa a u b))
  obtain ⟨c0, c1, c2, c3, c4, c5⟩ := (Bx6.new w 57 (.int .i64 11) u (.int .i64 kind) (.int .i64 fa) (.int .i64 a) b).at_
  have hn : ¬ loop = -1 := by omega
  have hnb : (loop != -1) = true := by simpa using hn
  go_enter Tryz.func139, Tryz.ntmps139
  go_wp2
  go_ret
  exact ⟨rfl, HX.out⟩
set_option maxRecDepth 100000 in
set_option maxHeartbeats 400000 in
theorem number_15 (op kind fa a loop : Int) (u b : Value) (w : World) (o1 : ¬ op = 1) (o9 : ¬ op = 9) (o10 : ¬ op = 10) (o11 : ¬ op = 11) (h0 : a = 0) :
    Calls Tryz.prog 139 #[ndAg op kind fa a u b, .int .i64 loop] w fun e w' => e = .returned (.bool true) ∧ Ext w w' := by
  have HX := Lib.hid ((Ext.refl w).alloc (ndCs op kind fa a u b))
  obtain ⟨c0, c1, c2, c3, c4, c5⟩ := (Bx6.new w 57 (.int .i64 op) u (.int .i64 kind) (.int .i64 fa) (.int .i64 a) b).at_
  by_cases hn : loop = -1
  case' pos => subst hn
  case' neg => have hnb : (loop != -1) = true := by simpa using hn
  all_goals
    subst h0
    go_enter Tryz.func139, Tryz.ntmps139
    go_wp2
    go_ret
    exact ⟨rfl, HX.out⟩
set_option maxRecDepth 100000 in
set_option maxHeartbeats 400000 in
theorem number_16 (op kind fa a loop : Int) (u b : Value) (w : World) (o1 : ¬ op = 1) (o9 : ¬ op = 9) (o10 : ¬ op = 10) (o11 : ¬ op = 11) (h0 : ¬ a = 0) :
    Calls Tryz.prog 139 #[ndAg op kind fa a u b, .int .i64 loop] w fun e w' => e = .returned (.bool false) ∧ Ext w w' := by
  have HX := Lib.hid ((Ext.refl w).alloc (ndCs op kind fa a u b))
  obtain ⟨c0, c1, c2, c3, c4, c5⟩ := (Bx6.new w 57 (.int .i64 op) u (.int .i64 kind) (.int .i64 fa) (.int .i64 a) b).at_
  by_cases hn : loop = -1
  case' pos => subst hn
  case' neg => have hnb : (loop != -1) = true := by simpa using hn
  all_goals
    have hb0 : (a == 0) = false := by simpa using h0
    go_enter Tryz.func139, Tryz.ntmps139
    go_wp2
    go_ret
    exact ⟨rfl, HX.out⟩
theorem number_any (op kind fa a loop : Int) (u b : Value) (w : World) (hl : loop = -1 ∨ 0 ≤ loop) :
    Calls Tryz.prog 139 #[ndAg op kind fa a u b, .int .i64 loop] w fun e w' => e = .returned (.bool (numB op a loop)) ∧ Ext w w' := by
  by_cases o1 : op = 1
  · subst o1
    rcases hl with rfl | hl
    · by_cases h0 : 0 ≤ a
      · by_cases h1 : a < 4
        · rw [show numB 1 a (-1) = true by unfold numB; simp <;> omega]
          exact number_2 1 kind fa a (-1) u b w h0 h1
        · rw [show numB 1 a (-1) = false by unfold numB; simp <;> omega]
          exact number_3 1 kind fa a (-1) u b w h0 h1
      · rw [show numB 1 a (-1) = false by unfold numB; simp <;> omega]
        exact number_1 1 kind fa a (-1) u b w h0
    · rw [show numB 1 a loop = false by unfold numB; simp <;> omega]
      exact number_0 1 kind fa a loop u b w hl
  by_cases o9 : op = 9
  · subst o9
    rcases hl with rfl | hl
    · by_cases h0 : 1 ≤ a
      · by_cases h1 : a ≤ 64
        · rw [show numB 9 a (-1) = true by unfold numB; simp <;> omega]
          exact number_6 9 kind fa a (-1) u b w h0 h1
        · rw [show numB 9 a (-1) = false by unfold numB; simp <;> omega]
          exact number_7 9 kind fa a (-1) u b w h0 h1
      · rw [show numB 9 a (-1) = false by unfold numB; simp <;> omega]
        exact number_5 9 kind fa a (-1) u b w h0
    · rw [show numB 9 a loop = false by unfold numB; simp <;> omega]
      exact number_4 9 kind fa a loop u b w hl
  by_cases o10 : op = 10
  · subst o10
    rcases hl with rfl | hl
    · rw [show numB 10 a (-1) = false by unfold numB; simp <;> omega]
      exact number_8 10 kind fa a (-1) u b w 
    · by_cases h0 : a = 0
      · rw [show numB 10 a loop = true by unfold numB; simp <;> omega]
        exact number_9 10 kind fa a loop u b w hl h0
      · rw [show numB 10 a loop = false by unfold numB; simp <;> omega]
        exact number_10 10 kind fa a loop u b w hl h0
  by_cases o11 : op = 11
  · subst o11
    rcases hl with rfl | hl
    · rw [show numB 11 a (-1) = false by unfold numB; simp <;> omega]
      exact number_11 11 kind fa a (-1) u b w 
    · by_cases h0 : 0 ≤ a
      · by_cases h1 : a < loop
        · rw [show numB 11 a loop = true by unfold numB; simp <;> omega]
          exact number_13 11 kind fa a loop u b w hl h0 h1
        · rw [show numB 11 a loop = false by unfold numB; simp <;> omega]
          exact number_14 11 kind fa a loop u b w hl h0 h1
      · rw [show numB 11 a loop = false by unfold numB; simp <;> omega]
        exact number_12 11 kind fa a loop u b w hl h0
  by_cases h0 : a = 0
  · rw [show numB op a loop = true by unfold numB; rw [if_neg o1, if_neg o9, if_neg o10, if_neg o11]; simp [h0]]
    exact number_15 op kind fa a loop u b w o1 o9 o10 o11 h0
  · rw [show numB op a loop = false by unfold numB; rw [if_neg o1, if_neg o9, if_neg o10, if_neg o11]; simp [h0]]
    exact number_16 op kind fa a loop u b w o1 o9 o10 o11 h0
/-- what a function must be, by a family -/
def fnB (F kind fa : Int) : Bool := if F = 0 then (kind == 0) && (fa == 0) else (fam kind fa == F)
theorem fnB_eq (n : Nd) : fnOk n = fnB (fmly n.op) n.kind n.fa := by
  unfold fnOk fnB
  split <;> rw [Bool.eq_iff_iff] <;> simp
set_option maxRecDepth 100000 in
set_option maxHeartbeats 400000 in
theorem function_any (op kind fa a F : Int) (u b : Value) (w : World) :
    Calls Tryz.prog 138 #[ndAg op kind fa a u b, .int .i64 F] w fun e w' => e = .returned (.bool (fnB F kind fa)) ∧ Ext w w' := by
  have HX := Lib.hid ((Ext.refl w).alloc (ndCs op kind fa a u b))
  obtain ⟨c0, c1, c2, c3, c4, c5⟩ := (Bx6.new w 57 (.int .i64 op) u (.int .i64 kind) (.int .i64 fa) (.int .i64 a) b).at_
  have HF := Lib.hid (fun w => fnFamily kind fa w)
  have heq := eqF
  unfold fnB
  by_cases hF : F = 0
  · subst hF
    rw [if_pos rfl]
    clear HF
    by_cases h1 : kind = 0
    · by_cases h2 : fa = 0
      · subst h1
        subst h2
        go_enter Tryz.func138, Tryz.ntmps138
        go_wp2
        go_ret
        exact ⟨rfl, HX.out⟩
      · subst h1
        have hb : (fa == 0) = false := by simpa using h2
        go_enter Tryz.func138, Tryz.ntmps138
        go_wp2
        go_ret
        exact ⟨by rw [hb]; rfl, HX.out⟩
    · have hb : (kind == 0) = false := by simpa using h1
      go_enter Tryz.func138, Tryz.ntmps138
      go_wp2
      go_ret
      exact ⟨by rw [hb]; rfl, HX.out⟩
  · rw [if_neg hF]
    have hb : (F == 0) = false := by simpa using hF
    generalize fam kind fa = fm at *
    clear hF
    go_enter Tryz.func138, Tryz.ntmps138
    go_wp2_with fail
    refine (HF.out _).mono ?_
    rintro e w1 ⟨rfl, he1⟩
    go_wp2
    go_ret
    exact ⟨rfl, HX.out.trans he1⟩
/-- what an op asks for: how many inputs, a function of which family -/
theorem needs_val (k : Int) (r1 r2 : Int) (is : Bool) (w : World) (h : Calls Tryz.prog 104 #[.int .i64 k] w fun e w' => e = .returned (.tuple #[.agg #[.int .i64 r1, .int .i64 r2], .bool is]) ∧ Ext w w') (h1 : arity k = r1) (h2 : fmly k = r2) (h3 : opOk k = is) :
    Calls Tryz.prog 104 #[.int .i64 k] w fun e w' => e = .returned (.tuple #[.agg #[.int .i64 (arity k), .int .i64 (fmly k)], .bool (opOk k)]) ∧ Ext w w' := by
  rw [h1, h2, h3]; exact h
set_option maxRecDepth 100000 in
set_option maxHeartbeats 400000 in
theorem needs_1 (k : Int) (w : World) : Calls Tryz.prog 104 #[.int .i64 1] w fun e w' => e = .returned (.tuple #[.agg #[.int .i64 0, .int .i64 0], .bool true]) ∧ Ext w w' := by
  go_enter Tryz.func104, Tryz.ntmps104
  go_wp2
  have hb := Blk.new w 149 #[.int .i64 0, .int .i64 0]
  have y0 := hb.cell 0
  have y1 := hb.cell 1
  exact bodyPost_ret (v := .tuple #[.agg #[.int .i64 0, .int .i64 0], .bool true]) (by simp [results, Tryz.results104, go_sem, y0, y1]) rfl ⟨rfl, (Ext.refl w).alloc _⟩
set_option maxRecDepth 100000 in
set_option maxHeartbeats 400000 in
theorem needs_2 (k : Int) (w : World) : Calls Tryz.prog 104 #[.int .i64 2] w fun e w' => e = .returned (.tuple #[.agg #[.int .i64 1, .int .i64 1], .bool true]) ∧ Ext w w' := by
  go_enter Tryz.func104, Tryz.ntmps104
  go_wp2
  have hb := Blk.new w 149 #[.int .i64 1, .int .i64 1]
  have y0 := hb.cell 0
  have y1 := hb.cell 1
  exact bodyPost_ret (v := .tuple #[.agg #[.int .i64 1, .int .i64 1], .bool true]) (by simp [results, Tryz.results104, go_sem, y0, y1]) rfl ⟨rfl, (Ext.refl w).alloc _⟩
set_option maxRecDepth 100000 in
set_option maxHeartbeats 400000 in
theorem needs_3 (k : Int) (w : World) : Calls Tryz.prog 104 #[.int .i64 3] w fun e w' => e = .returned (.tuple #[.agg #[.int .i64 1, .int .i64 2], .bool true]) ∧ Ext w w' := by
  go_enter Tryz.func104, Tryz.ntmps104
  go_wp2
  have hb := Blk.new w 149 #[.int .i64 1, .int .i64 2]
  have y0 := hb.cell 0
  have y1 := hb.cell 1
  exact bodyPost_ret (v := .tuple #[.agg #[.int .i64 1, .int .i64 2], .bool true]) (by simp [results, Tryz.results104, go_sem, y0, y1]) rfl ⟨rfl, (Ext.refl w).alloc _⟩
set_option maxRecDepth 100000 in
set_option maxHeartbeats 400000 in
theorem needs_4 (k : Int) (w : World) : Calls Tryz.prog 104 #[.int .i64 4] w fun e w' => e = .returned (.tuple #[.agg #[.int .i64 1, .int .i64 3], .bool true]) ∧ Ext w w' := by
  go_enter Tryz.func104, Tryz.ntmps104
  go_wp2
  have hb := Blk.new w 149 #[.int .i64 1, .int .i64 3]
  have y0 := hb.cell 0
  have y1 := hb.cell 1
  exact bodyPost_ret (v := .tuple #[.agg #[.int .i64 1, .int .i64 3], .bool true]) (by simp [results, Tryz.results104, go_sem, y0, y1]) rfl ⟨rfl, (Ext.refl w).alloc _⟩
set_option maxRecDepth 100000 in
set_option maxHeartbeats 400000 in
theorem needs_5 (k : Int) (w : World) : Calls Tryz.prog 104 #[.int .i64 5] w fun e w' => e = .returned (.tuple #[.agg #[.int .i64 1, .int .i64 4], .bool true]) ∧ Ext w w' := by
  go_enter Tryz.func104, Tryz.ntmps104
  go_wp2
  have hb := Blk.new w 149 #[.int .i64 1, .int .i64 4]
  have y0 := hb.cell 0
  have y1 := hb.cell 1
  exact bodyPost_ret (v := .tuple #[.agg #[.int .i64 1, .int .i64 4], .bool true]) (by simp [results, Tryz.results104, go_sem, y0, y1]) rfl ⟨rfl, (Ext.refl w).alloc _⟩
set_option maxRecDepth 100000 in
set_option maxHeartbeats 400000 in
theorem needs_6 (k : Int) (w : World) : Calls Tryz.prog 104 #[.int .i64 6] w fun e w' => e = .returned (.tuple #[.agg #[.int .i64 2, .int .i64 5], .bool true]) ∧ Ext w w' := by
  go_enter Tryz.func104, Tryz.ntmps104
  go_wp2
  have hb := Blk.new w 149 #[.int .i64 2, .int .i64 5]
  have y0 := hb.cell 0
  have y1 := hb.cell 1
  exact bodyPost_ret (v := .tuple #[.agg #[.int .i64 2, .int .i64 5], .bool true]) (by simp [results, Tryz.results104, go_sem, y0, y1]) rfl ⟨rfl, (Ext.refl w).alloc _⟩
set_option maxRecDepth 100000 in
set_option maxHeartbeats 400000 in
theorem needs_7 (k : Int) (w : World) : Calls Tryz.prog 104 #[.int .i64 7] w fun e w' => e = .returned (.tuple #[.agg #[.int .i64 1, .int .i64 0], .bool true]) ∧ Ext w w' := by
  go_enter Tryz.func104, Tryz.ntmps104
  go_wp2
  have hb := Blk.new w 149 #[.int .i64 1, .int .i64 0]
  have y0 := hb.cell 0
  have y1 := hb.cell 1
  exact bodyPost_ret (v := .tuple #[.agg #[.int .i64 1, .int .i64 0], .bool true]) (by simp [results, Tryz.results104, go_sem, y0, y1]) rfl ⟨rfl, (Ext.refl w).alloc _⟩
set_option maxRecDepth 100000 in
set_option maxHeartbeats 400000 in
theorem needs_8 (k : Int) (w : World) : Calls Tryz.prog 104 #[.int .i64 8] w fun e w' => e = .returned (.tuple #[.agg #[.int .i64 2, .int .i64 0], .bool true]) ∧ Ext w w' := by
  go_enter Tryz.func104, Tryz.ntmps104
  go_wp2
  have hb := Blk.new w 149 #[.int .i64 2, .int .i64 0]
  have y0 := hb.cell 0
  have y1 := hb.cell 1
  exact bodyPost_ret (v := .tuple #[.agg #[.int .i64 2, .int .i64 0], .bool true]) (by simp [results, Tryz.results104, go_sem, y0, y1]) rfl ⟨rfl, (Ext.refl w).alloc _⟩
set_option maxRecDepth 100000 in
set_option maxHeartbeats 400000 in
theorem needs_9 (k : Int) (w : World) : Calls Tryz.prog 104 #[.int .i64 9] w fun e w' => e = .returned (.tuple #[.agg #[.int .i64 1, .int .i64 0], .bool true]) ∧ Ext w w' := by
  go_enter Tryz.func104, Tryz.ntmps104
  go_wp2
  have hb := Blk.new w 149 #[.int .i64 1, .int .i64 0]
  have y0 := hb.cell 0
  have y1 := hb.cell 1
  exact bodyPost_ret (v := .tuple #[.agg #[.int .i64 1, .int .i64 0], .bool true]) (by simp [results, Tryz.results104, go_sem, y0, y1]) rfl ⟨rfl, (Ext.refl w).alloc _⟩
set_option maxRecDepth 100000 in
set_option maxHeartbeats 400000 in
theorem needs_10 (k : Int) (w : World) : Calls Tryz.prog 104 #[.int .i64 10] w fun e w' => e = .returned (.tuple #[.agg #[.int .i64 0, .int .i64 0], .bool true]) ∧ Ext w w' := by
  go_enter Tryz.func104, Tryz.ntmps104
  go_wp2
  have hb := Blk.new w 149 #[.int .i64 0, .int .i64 0]
  have y0 := hb.cell 0
  have y1 := hb.cell 1
  exact bodyPost_ret (v := .tuple #[.agg #[.int .i64 0, .int .i64 0], .bool true]) (by simp [results, Tryz.results104, go_sem, y0, y1]) rfl ⟨rfl, (Ext.refl w).alloc _⟩
set_option maxRecDepth 100000 in
set_option maxHeartbeats 400000 in
theorem needs_11 (k : Int) (w : World) : Calls Tryz.prog 104 #[.int .i64 11] w fun e w' => e = .returned (.tuple #[.agg #[.int .i64 0, .int .i64 0], .bool true]) ∧ Ext w w' := by
  go_enter Tryz.func104, Tryz.ntmps104
  go_wp2
  have hb := Blk.new w 149 #[.int .i64 0, .int .i64 0]
  have y0 := hb.cell 0
  have y1 := hb.cell 1
  exact bodyPost_ret (v := .tuple #[.agg #[.int .i64 0, .int .i64 0], .bool true]) (by simp [results, Tryz.results104, go_sem, y0, y1]) rfl ⟨rfl, (Ext.refl w).alloc _⟩
set_option maxRecDepth 100000 in
set_option maxHeartbeats 400000 in
theorem needs_0 (k : Int) (w : World) (hk : k < 1 ∨ 11 < k) : Calls Tryz.prog 104 #[.int .i64 k] w fun e w' => e = .returned (.tuple #[.agg #[.int .i64 0, .int .i64 0], .bool false]) ∧ Ext w w' := by
  have n1 : ¬ k = 1 := by omega
  have n2 : ¬ k = 2 := by omega
  have n3 : ¬ k = 3 := by omega
  have n4 : ¬ k = 4 := by omega
  have n5 : ¬ k = 5 := by omega
  have n6 : ¬ k = 6 := by omega
  have n7 : ¬ k = 7 := by omega
  have n8 : ¬ k = 8 := by omega
  have n9 : ¬ k = 9 := by omega
  have n10 : ¬ k = 10 := by omega
  have n11 : ¬ k = 11 := by omega
  clear hk
  go_enter Tryz.func104, Tryz.ntmps104
  go_wp2
  have hb := Blk.new w 149 #[.int .i64 0, .int .i64 0]
  have y0 := hb.cell 0
  have y1 := hb.cell 1
  exact bodyPost_ret (v := .tuple #[.agg #[.int .i64 0, .int .i64 0], .bool false]) (by simp [results, Tryz.results104, go_sem, y0, y1]) rfl ⟨rfl, (Ext.refl w).alloc _⟩
theorem needs_any (k : Int) (w : World) : Calls Tryz.prog 104 #[.int .i64 k] w fun e w' => e = .returned (.tuple #[.agg #[.int .i64 (arity k), .int .i64 (fmly k)], .bool (opOk k)]) ∧ Ext w w' := by
  rcases ops11 k with rfl | rfl | rfl | rfl | rfl | rfl | rfl | rfl | rfl | rfl | rfl | hk
  · exact needs_val _ _ _ _ w (needs_1 0 w) rfl rfl rfl
  · exact needs_val _ _ _ _ w (needs_2 0 w) rfl rfl rfl
  · exact needs_val _ _ _ _ w (needs_3 0 w) rfl rfl rfl
  · exact needs_val _ _ _ _ w (needs_4 0 w) rfl rfl rfl
  · exact needs_val _ _ _ _ w (needs_5 0 w) rfl rfl rfl
  · exact needs_val _ _ _ _ w (needs_6 0 w) rfl rfl rfl
  · exact needs_val _ _ _ _ w (needs_7 0 w) rfl rfl rfl
  · exact needs_val _ _ _ _ w (needs_8 0 w) rfl rfl rfl
  · exact needs_val _ _ _ _ w (needs_9 0 w) rfl rfl rfl
  · exact needs_val _ _ _ _ w (needs_10 0 w) rfl rfl rfl
  · exact needs_val _ _ _ _ w (needs_11 0 w) rfl rfl rfl
  · refine needs_val _ _ _ _ w (needs_0 k w hk) ?_ ?_ ?_
    · unfold arity; rw [if_neg (by omega), if_neg (by omega)]
    · unfold fmly; repeat' rw [if_neg (by omega)]
    · unfold opOk; rcases hk with hk | hk
      · rw [decide_eq_false (by omega)]; rfl
      · rw [decide_eq_false (p := k ≤ 11) (by omega), Bool.and_false]
end Go.Proofs.YtpmgmiiidfconaaGreatDoor
