/-
  GrNodeAt, NumMath, GrRdMath, SlcB, GrGet, GrDeep, GrSame, packed: what the claim needs of them.
-/
import Derived.Test.YtpmgmiiidfconaaGreatDoorPz08
import Derived.Test.YtpmgmiiidfconaaGreatDoorPz06
import Derived.Test.YtpmgmiiidfconaaGreatDoorPz09
import GoSem.Op.String
import Derived.Test.YtpmgmiiidfconaaGreatDoorChecked
import Derived.Test.YtpmgmiiidfconaaGreatDoorPz02
import Derived.WalkKit
import Derived.WalkSpells
import Derived.WalkLawsBesides
import Derived.StillTailTactics
import Derived.IntWalk
import Derived.Test.YtpmgmiiidfconaaGreatDoorPz04
import Derived.BigRegion
namespace Go.Proofs.YtpmgmiiidfconaaGreatDoor
open Go.RowKit Go.Ox Go.Ox.Gr
set_option linter.unusedVariables false
set_option linter.unusedSimpArgs false
attribute [local irreducible] RE OE NodesR
theorem elemI : Elem Tryz.prog 22 3 (.int .i64 0) 1 8 := Elem.mk' Tryz.underlying22 (by kernel_rfl) rfl (by omega)
theorem elemNd : Elem Tryz.prog 37 57 (.agg #[.int .i64 0, .slice none 0 0, .int .i64 0, .int .i64 0, .int .i64 0, .slice none 0 0]) 6 80 := Elem.mk' Tryz.underlying37 (by kernel_rfl) rfl (by omega)
theorem Bx6.fill {w : World} {q : Nat} {T : TypeId} {a0 a1 a2 a3 a4 a5 : Value} (h : Bx6 w q T a0 a1 a2 a3 a4 a5) (v0 v1 v2 v3 v4 v5 : Value) :
    Bx6 ((((((w.setCell ⟨q, 0, none⟩ v0).setCell ⟨q, 1, none⟩ v1).setCell ⟨q, 2, none⟩ v2).setCell ⟨q, 3, none⟩ v3).setCell ⟨q, 4, none⟩ v4).setCell ⟨q, 5, none⟩ v5) q T v0 v1 v2 v3 v4 v5 :=
  ⟨by simpa using (((((h.b.set_ 0 v0).set_ 1 v1).set_ 2 v2).set_ 3 v3).set_ 4 v4).set_ 5 v5⟩
theorem extQ6 {Q : Nat → Prop} {w0 w : World} {q : Nat} (h : ExtQ Q w0 w) (hq : Q q) (v0 v1 v2 v3 v4 v5 : Value) :
    ExtQ Q w0 ((((((w.setCell ⟨q, 0, none⟩ v0).setCell ⟨q, 1, none⟩ v1).setCell ⟨q, 2, none⟩ v2).setCell ⟨q, 3, none⟩ v3).setCell ⟨q, 4, none⟩ v4).setCell ⟨q, 5, none⟩ v5) :=
  ExtQ.setCell (ExtQ.setCell (ExtQ.setCell (ExtQ.setCell (ExtQ.setCell (ExtQ.setCell h (p := ⟨q, 0, none⟩) hq v0) (p := ⟨q, 1, none⟩) hq v1) (p := ⟨q, 2, none⟩) hq v2) (p := ⟨q, 3, none⟩) hq v3) (p := ⟨q, 4, none⟩) hq v4) (p := ⟨q, 5, none⟩) hq v5
end Go.Proofs.YtpmgmiiidfconaaGreatDoor
namespace Go.Proofs.YtpmgmiiidfconaaGreatDoor
open Go.RowKit Go.Ox Go.Ox.Gr
set_option linter.unusedVariables false
set_option linter.unusedSimpArgs false
attribute [local irreducible] RE OE NodesR
end Go.Proofs.YtpmgmiiidfconaaGreatDoor
namespace Go.Ox.Gr
end Go.Ox.Gr
namespace Go.Proofs.YtpmgmiiidfconaaGreatDoor
open Go.RowKit Go.Ox Go.Ox.Gr
set_option linter.unusedVariables false
set_option linter.unusedSimpArgs false
attribute [local irreducible] RE OE NodesR
end Go.Proofs.YtpmgmiiidfconaaGreatDoor
namespace Go.Ox.Num

end Go.Ox.Num
namespace Go.Ox.Num
/-- what a reader holds: what is not read, and whether it is bad -/
structure St where
  l : List UInt8
  bad : Bool
end Go.Ox.Num
namespace Go.Ox.Num
open Go.Op
end Go.Ox.Num
namespace Go.Ox.Num
open Go.Op
end Go.Ox.Num
set_option linter.unusedVariables false
namespace Go.Ox.Gr
theorem flat_le {α : Type} (f : α → List UInt8) (c : Nat) : ∀ (l : List α), (∀ x ∈ l, (f x).length ≤ c) → (l.flatMap f).length ≤ l.length * c
  | [], _ => by simp
  | x :: l, h => by
    have h1 := flat_le f c l fun y hy => h y (List.mem_cons_of_mem _ hy)
    have h2 := h x (List.mem_cons_self ..)
    rw [List.flatMap_cons, List.length_append, List.length_cons, Nat.add_mul]
    omega
end Go.Ox.Gr
set_option linter.unusedVariables false
namespace Go.Ox.Gr
open Go.Ox.Num (St)
/-- the package's reader: that of numbers, and a mark -/
structure PS where
  s : St
  gb : Bool
end Go.Ox.Gr
namespace Go.Proofs.YtpmgmiiidfconaaGreatDoor
open Go.RowKit Go.Ox
theorem elemB : Elem Tryz.prog 74 5 (.int .u8 0) 1 1 := Elem.mk' Tryz.underlying74 (by kernel_rfl) rfl (by omega)
end Go.Proofs.YtpmgmiiidfconaaGreatDoor
namespace Go.Proofs.YtpmgmiiidfconaaGreatDoor
open Go.RowKit Go.Ox Go.Ox.Gr
set_option linter.unusedVariables false
set_option linter.unusedSimpArgs false
section
variable {K : Nat → Prop} {B B' p g : Nat} {w w' : World} {S : PS} {s1 : Num.St}
end
end Go.Proofs.YtpmgmiiidfconaaGreatDoor
namespace Go.Proofs.YtpmgmiiidfconaaGreatDoor
open Go.RowKit Go.Ox Go.Ox.Gr
set_option linter.unusedVariables false
set_option linter.unusedSimpArgs false
theorem OE.extQ' {Q : Nat → Prop} {E B : Nat} {w w' : World} {v : Value} {l : List Int} (h : OE E B w v l) (he : ExtQ Q w w') (hq : ∀ k, v.ownBlock = some k → ¬ Q k) : OE E B w' v l := OE.mk (ownsRow_extQ h.own he hq)
attribute [local irreducible] RE OE NodesR
section
variable {K : Nat → Prop} {B B' p g q : Nat} {w w' : World} {S S' : PS} {T : TypeId} {a0 a1 a2 a3 a4 a5 : Value} {Q : Nat → Prop}
theorem Bx6.extQ (h : Bx6 w q T a0 a1 a2 a3 a4 a5) (he : ExtQ Q w w') (hq : ¬ Q q) : Bx6 w' q T a0 a1 a2 a3 a4 a5 := ⟨h.b.extQ he hq⟩
end
end Go.Proofs.YtpmgmiiidfconaaGreatDoor
namespace Go.Proofs.YtpmgmiiidfconaaGreatDoor
open Go.RowKit Go.Ox Go.Ox.Gr
set_option linter.unusedVariables false
set_option linter.unusedSimpArgs false
attribute [local irreducible] RE OE NodesR
end Go.Proofs.YtpmgmiiidfconaaGreatDoor
namespace Go.Ox.Gr
end Go.Ox.Gr
namespace Go.Proofs.YtpmgmiiidfconaaGreatDoor
open Go.RowKit Go.Ox Go.Ox.Gr
set_option linter.unusedVariables false
set_option linter.unusedSimpArgs false
attribute [local irreducible] RE OE NodesR
end Go.Proofs.YtpmgmiiidfconaaGreatDoor
namespace Go.Ox.Gr
/-- too deep, or too large: at most k levels are looked at -/
def deepB : Nat → List Nd → Bool
  | 0, _ => true
  | k + 1, l => decide (40 < l.length) || l.any fun n => decide (40 < n.ins.length) || (decide (0 < n.body.length) && deepB k n.body)
def deepN (k : Nat) (n : Nd) : Bool := decide (40 < n.ins.length) || (decide (0 < n.body.length) && deepB k n.body)
def anyD (k : Nat) (l : List Nd) : Bool := l.any (deepN k)
theorem deepB_s (k : Nat) (l : List Nd) : deepB (k + 1) l = (decide (40 < l.length) || anyD k l) := rfl
/-- what is not too large: at most 40 of everything -/
theorem deep_ok {k : Nat} {l : List Nd} (h : deepB (k + 1) l = false) : l.length ≤ 40 ∧ ∀ n ∈ l, n.ins.length ≤ 40 ∧ (n.body = [] ∨ deepB k n.body = false) := by
  rw [deepB_s, Bool.or_eq_false_iff, decide_eq_false_iff_not] at h
  refine ⟨by omega, fun n hn => ?_⟩
  have h2 : deepN k n = false := by
    have := h.2
    unfold anyD at this
    rw [List.any_eq_false] at this
    simpa using this n hn
  unfold deepN at h2
  rw [Bool.or_eq_false_iff, decide_eq_false_iff_not, Bool.and_eq_false_iff, decide_eq_false_iff_not] at h2
  refine ⟨by omega, h2.2.imp (fun q => ?_) id⟩
  exact List.eq_nil_of_length_eq_zero (by omega)
end Go.Ox.Gr
namespace Go.Proofs.YtpmgmiiidfconaaGreatDoor
open Go.RowKit Go.Ox Go.Ox.Gr
set_option linter.unusedVariables false
set_option linter.unusedSimpArgs false
attribute [local irreducible] RE NodesR deepB
end Go.Proofs.YtpmgmiiidfconaaGreatDoor
namespace Go.Ox.Gr
/-- at most 40 of everything, k levels -/
def Sm : Nat → List Nd → Prop
  | 0, l => l = []
  | k + 1, l => l.length ≤ 40 ∧ ∀ n ∈ l, n.ins.length ≤ 40 ∧ Sm k n.body
theorem Sm.nil : ∀ (k : Nat), Sm k []
  | 0 => rfl
  | k + 1 => ⟨by simp, fun n hn => by simp at hn⟩
theorem Sm.of_deep : ∀ {k : Nat} {l : List Nd}, deepB k l = false → Sm k l
  | 0, _, h => by cases h
  | k + 1, l, h => ⟨(deep_ok h).1, fun n hn => ⟨((deep_ok h).2 n hn).1, by
      rcases ((deep_ok h).2 n hn).2 with q | q
      · rw [q]; exact Sm.nil k
      · exact Sm.of_deep q⟩⟩
theorem Sm.facts {k : Nat} {l : List Nd} (h : Sm k l) : l.length ≤ 40 ∧ ∀ n ∈ l, n.ins.length ≤ 40 ∧ Sm (k - 1) n.body := by
  cases k with
  | zero => cases h; exact ⟨by simp, fun n hn => by simp at hn⟩
  | succ k => exact h
theorem at_ne {α : Type} {l r : List α} {k : Nat} (h1 : k < l.length) (h2 : k < r.length) (h : l[k] ≠ r[k]) : l ≠ r := fun e => by subst e; exact h rfl
end Go.Ox.Gr
namespace Go.Proofs.YtpmgmiiidfconaaGreatDoor
open Go.RowKit Go.Ox Go.Ox.Gr
set_option linter.unusedVariables false
set_option linter.unusedSimpArgs false
attribute [local irreducible] RE NodesR
/-- what is told of two lists -/
def SameP (l r : List Nd) (w : World) (e : Ending) (w' : World) : Prop := ∃ b, e = .returned (.bool b) ∧ (b = true ↔ l = r) ∧ Ext w w'
theorem SameP.no {l r : List Nd} {w w' : World} {e : Ending} (h : l ≠ r) (he : e = .returned (.bool false)) (hx : Ext w w') : SameP l r w e w' := ⟨false, he, Iff.intro (fun q => Bool.noConfusion q) (fun q => absurd q h), hx⟩
theorem bx6_two (w : World) (T : TypeId) (a0 a1 a2 a3 a4 a5 b0 b1 b2 b3 b4 b5 : Value) :
    Bx6 ((w.alloc (.cells #[a0, a1, a2, a3, a4, a5] T)).alloc (.cells #[b0, b1, b2, b3, b4, b5] T)).drew w.heap.size T a0 a1 a2 a3 a4 a5 ∧ Bx6 ((w.alloc (.cells #[a0, a1, a2, a3, a4, a5] T)).alloc (.cells #[b0, b1, b2, b3, b4, b5] T)).drew (w.heap.size + 1) T b0 b1 b2 b3 b4 b5 ∧
    Ext w ((w.alloc (.cells #[a0, a1, a2, a3, a4, a5] T)).alloc (.cells #[b0, b1, b2, b3, b4, b5] T)).drew := by
  have h := Bx6.new (w.alloc (.cells #[a0, a1, a2, a3, a4, a5] T)) T b0 b1 b2 b3 b4 b5
  rw [show (w.alloc (.cells #[a0, a1, a2, a3, a4, a5] T)).heap.size = w.heap.size + 1 by simp] at h
  exact ⟨((Bx6.new w T a0 a1 a2 a3 a4 a5).ext ((Ext.refl _).alloc _)).ext (Ext.refl _).drew, h.ext (Ext.refl _).drew, (((Ext.refl w).alloc _).alloc _).drew⟩
set_option maxRecDepth 100000 in
set_option maxHeartbeats 16000000 in
theorem rsameN_any : ∀ (K d d' : Nat) (v u : Value) (l r : List Nd) (w : World), K ≤ 4 → Sm K l → NodesR d w v l → NodesR d' w u r →
    Calls Tryz.prog 71 #[v, u] w (SameP l r w) := by
  intro K
  induction K using Nat.strongRecOn with
  | ind K ih =>
    intro d d' v u l r w hK4 hsm hv hu
    obtain ⟨A, c, rfl⟩ := hv.form
    obtain ⟨B, e, rfl⟩ := hu.form
    by_cases hlen : l.length = r.length
    case neg =>
      have hb : ((l.length : Int) != (r.length : Int)) = true := by simp; omega
      have HN := Lib.hid (show l ≠ r from fun q => hlen (by rw [q]))
      have HNO := Lib.hid (fun w' e h1 h2 => @SameP.no l r w w' e HN.out h1 h2)
      clear hv hu hlen hsm ih
      go_enter Tryz.func71, Tryz.ntmps71
      go_wp2
      go_ret
      exact HNO.out _ _ rfl (Ext.refl _)
    have hb : ((l.length : Int) != (r.length : Int)) = false := by simp; omega
    have HV := Lib.hid hv
    have HU := Lib.hid hu
    have HLEN := Lib.hid hlen
    have HSM := Lib.hid hsm.facts
    have HK0 := Lib.hid (show l ≠ [] → 0 < K from fun hne => by
      cases K with
      | zero => exact absurd hsm hne
      | succ K => omega)
    have IH := Lib.hid (fun (h0 : 0 < K) d d' v u l r w h1 h2 h3 => ih (K - 1) (by omega) d d' v u l r w (by omega) h1 h2 h3)
    have HNO := Lib.hid (fun w' e h0 h1 h2 => @SameP.no l r w w' e h0 h1 h2)
    clear hv hu hlen hsm ih
    go_enter Tryz.func71, Tryz.ntmps71
    go_wp2
    clear hb
    go_loopw [5] (fun iv wr => ∃ k : Nat, k ≤ l.length ∧ iv = .int .i64 (k : Int) ∧ l.take k = r.take k ∧ Ext w wr) (fun iv _ => l.length - (intOf iv).toNat)
    case atStart => exact ⟨0, Nat.zero_le _, rfl, rfl, Ext.refl _⟩
    case round =>
      obtain ⟨k, hk, rfl, hp, hext⟩ := hrel
      have HP := Lib.hid hp
      have HE := Lib.hid hext
      have hk40 : k ≤ 40 := by have := HSM.out.1; omega
      clear hp
      by_cases hlt : k < l.length
      · have q1 : (k : Int) < (l.length : Int) := by omega
        have q0 : 0 ≤ (k : Int) := by omega
        have q1n : k < l.length := hlt
        have q2n : k < r.length := by have := HLEN.out; omega
        have q2 : (k : Int) < (r.length : Int) := by omega
        have HLT := Lib.hid hlt
        obtain ⟨bA, oA, xu, xb, rfl, z0, z1, z2, z3, z4, z5, hxu, hxb⟩ := (HV.out.ext hext).at_ hlt
        obtain ⟨bB, oB, yu, yb, rfl, g0, g1, g2, g3, g4, g5, hyu, hyb⟩ := (HU.out.ext hext).at_ q2n
        have HNE := Lib.hid (fun h => at_ne hlt q2n h)
        have HEQ := Lib.hid (show l[k] = r[k] → l.take (k + 1) = r.take (k + 1) from fun h => by rw [List.take_succ_eq_append_getElem hlt, List.take_succ_eq_append_getElem q2n, HP.out]; exact congrArg (fun z => r.take k ++ [z]) h)
        have HSX := Lib.hid (HSM.out.2 l[k] (List.getElem_mem hlt))
        generalize l[k] = x at *
        generalize r[k] = y at *
        obtain ⟨xop, xins, xkind, xfa, xa, xbody⟩ := x
        obtain ⟨yop, yins, ykind, yfa, ya, ybody⟩ := y
        simp only [Nd.op, Nd.kind, Nd.fa, Nd.a, Nd.ins, Nd.body] at z0 z2 z3 z4 hxu hxb g0 g2 g3 g4 hyu hyb
        replace HSX := Lib.hid (show xins.length ≤ 40 ∧ Sm (K - 1) xbody from HSX.out)
        have HKP := Lib.hid (HK0.out (fun e => by rw [e] at hlt; simp at hlt))
        have HXU := Lib.hid hxu
        have HXB := Lib.hid hxb
        have HYU := Lib.hid hyu
        have HYB := Lib.hid hyb
        obtain ⟨Ax, cx, rfl⟩ := hxu.form
        obtain ⟨Bx, dx, rfl⟩ := hxb.form
        obtain ⟨Ay, cy, rfl⟩ := hyu.form
        obtain ⟨By, dy, rfl⟩ := hyb.form
        have hA := World.block_lt_of_cell? wr _ z0
        have hB := World.block_lt_of_cell? wr _ g0
        simp only at hA hB
        have hA1 : ¬ bA = wr.heap.size := by omega
        have hB1 : ¬ bB = wr.heap.size := by omega
        have hA2 : ¬ bA = wr.heap.size + 1 := by omega
        have hB2 : ¬ bB = wr.heap.size + 1 := by omega
        clear hxu hxb hyu hyb hlt hk hext
        go_upto_region 6 with fail
        go_cut [6, 7] (fun s6 s7 wx => ∃ n6 n7, s6 = .pointer (some ⟨n6, 0, none⟩) ∧ s7 = .pointer (some ⟨n7, 0, none⟩) ∧ Bx6 wx n6 57 (.int .i64 xop) (.slice Ax xins.length cx) (.int .i64 xkind) (.int .i64 xfa) (.int .i64 xa) (.slice Bx xbody.length dx) ∧ Bx6 wx n7 57 (.int .i64 yop) (.slice Ay yins.length cy) (.int .i64 ykind) (.int .i64 yfa) (.int .i64 ya) (.slice By ybody.length dy) ∧ Ext wr wx)
        case first =>
          have HI1 := Lib.hid (bx6_two wr 57 (.int .i64 xop) (.slice Ax xins.length cx) (.int .i64 xkind) (.int .i64 xfa) (.int .i64 xa) (.slice Bx xbody.length dx) (.int .i64 yop) (.slice Ay yins.length cy) (.int .i64 ykind) (.int .i64 yfa) (.int .i64 ya) (.slice By ybody.length dy))
          have HI2 := Lib.hid (bx6_two wr 57 (.int .i64 yop) (.slice Ay yins.length cy) (.int .i64 ykind) (.int .i64 yfa) (.int .i64 ya) (.slice By ybody.length dy) (.int .i64 xop) (.slice Ax xins.length cx) (.int .i64 xkind) (.int .i64 xfa) (.int .i64 xa) (.slice Bx xbody.length dx))
          clear HP HE HNE HEQ HSX HXU HXB HYU HYB HV HU HLEN HSM IH HNO HK0 HKP
          go_region
          all_goals go_wp2
          all_goals go_meet
          · exact ⟨_, _, rfl, rfl, HI1.out.1, HI1.out.2.1, HI1.out.2.2⟩
          · exact ⟨_, _, rfl, rfl, HI2.out.2.1, HI2.out.1, HI2.out.2.2⟩
        case rest =>
        obtain ⟨n6, n7, rfl, rfl, hb6, hb7, hx3⟩ := hcut
        rename World => w3
        have HB6 := Lib.hid hb6
        have HB7 := Lib.hid hb7
        have HX3 := Lib.hid hx3
        clear hb6 hb7 hx3 z0 z1 z2 z3 z4 z5 g0 g1 g2 g3 g4 g5 hA hB hA1 hB1 hA2 hB2
        obtain ⟨x0, x1, x2, x3, x4, x5⟩ := HB6.out.at_
        obtain ⟨y0, y1, y2, y3, y4, y5⟩ := HB7.out.at_
        have HX := Lib.hid (HE.out.trans HX3.out)
        by_cases hop : xop = yop
        case neg =>
          have HN := Lib.hid (HNE.out (fun e => by injection e with a1 a2 a3 a4 a5 a6; exact hop a1))
          have hb : (xop != yop) = true := by simpa using hop
          clear hop
          go_wp2_with fail
          go_ret
          exact HNO.out _ _ HN.out rfl HX.out
        subst hop
        by_cases hki : xkind = ykind
        case neg =>
          have HN := Lib.hid (HNE.out (fun e => by injection e with a1 a2 a3 a4 a5 a6; exact hki a3))
          have hb : (xkind == ykind) = false := by simpa using hki
          go_wp2_with fail
          go_ret
          exact HNO.out _ _ HN.out rfl HX.out
        subst hki
        by_cases hfa : xfa = yfa
        case neg =>
          have HN := Lib.hid (HNE.out (fun e => by injection e with a1 a2 a3 a4 a5 a6; exact hfa a4))
          have hb : (xfa == yfa) = false := by simpa using hfa
          go_wp2_with fail
          go_ret
          exact HNO.out _ _ HN.out rfl HX.out
        subst hfa
        by_cases haa : xa = ya
        case neg =>
          have HN := Lib.hid (HNE.out (fun e => by injection e with a1 a2 a3 a4 a5 a6; exact haa a5))
          have hb : (xa != ya) = true := by simpa using haa
          clear haa
          go_wp2_with fail
          go_ret
          exact HNO.out _ _ HN.out rfl HX.out
        subst haa
        by_cases hil : xins.length = yins.length
        case neg =>
          have HN := Lib.hid (HNE.out (fun e => by injection e with a1 a2 a3 a4 a5 a6; exact hil (by rw [a2])))
          have hb : ((xins.length : Int) != (yins.length : Int)) = true := by simp; omega
          clear hil
          go_wp2_with fail
          go_ret
          exact HNO.out _ _ HN.out rfl HX.out
        have hb : ((xins.length : Int) != (yins.length : Int)) = false := by simp; omega
        have HIL := Lib.hid hil
        clear hil
        go_wp2_with fail
        refine (IH.out HKP.out _ _ _ _ xbody ybody w3 HSX.out.2 (HXB.out.ext HX3.out) (HYB.out.ext HX3.out)).mono ?_
        rintro e w4 ⟨b, rfl, hbb, he4⟩
        have HX4 := Lib.hid (HX.out.trans he4)
        have HB64 := Lib.hid (HB6.out.ext he4)
        have HB74 := Lib.hid (HB7.out.ext he4)
        have HXU4 := Lib.hid (RE.ext HXU.out (HX3.out.trans he4))
        have HYU4 := Lib.hid (RE.ext HYU.out (HX3.out.trans he4))
        cases b with
        | false =>
          have HN := Lib.hid (HNE.out (fun e => by injection e with a1 a2 a3 a4 a5 a6; exact absurd (hbb.2 a6) (by decide)))
          clear hbb he4
          go_wp2_with fail
          go_ret
          exact HNO.out _ _ HN.out rfl HX4.out
        | true =>
          have HBD := Lib.hid (hbb.1 rfl)
          clear hbb he4 hb x0 x1 x2 x3 x4 x5 y0 y1 y2 y3 y4 y5
          go_wp2
          go_loopw [8] (fun jv wq => ∃ j : Nat, j ≤ xins.length ∧ jv = .int .i64 (j : Int) ∧ xins.take j = yins.take j ∧ Ext w4 wq) (fun jv _ => xins.length - (intOf jv).toNat)
          case atStart => exact ⟨0, Nat.zero_le _, rfl, rfl, Ext.refl _⟩
          case round =>
            obtain ⟨j, hj, rfl, hjt, hjx⟩ := hrel
            have HJT := Lib.hid hjt
            have HJX := Lib.hid hjx
            have hj40 : j ≤ 40 := by have := HSX.out.1; omega
            obtain ⟨x0, x1, x2, x3, x4, x5⟩ := (HB64.out.ext hjx).at_
            obtain ⟨y0, y1, y2, y3, y4, y5⟩ := (HB74.out.ext hjx).at_
            clear hjt
            by_cases hjl : j < xins.length
            · have r1 : (j : Int) < (xins.length : Int) := by omega
              have r2 : (j : Int) < (yins.length : Int) := by have := HIL.out; omega
              have r0 : 0 ≤ (j : Int) := by omega
              have r1n : j < xins.length := hjl
              have r2n : j < yins.length := by have := HIL.out; omega
              have HJL := Lib.hid hjl
              obtain ⟨bI, oI, rfl, i0⟩ := ri1 (RE.ext HXU4.out hjx) hjl
              obtain ⟨bJ, oJ, rfl, i1⟩ := ri1 (RE.ext HYU4.out hjx) r2n
              have HNJ := Lib.hid (fun h => at_ne hjl r2n h)
              have HTJ := Lib.hid (show xins[j] = yins[j] → xins.take (j + 1) = yins.take (j + 1) from fun h => by rw [List.take_succ_eq_append_getElem hjl, List.take_succ_eq_append_getElem r2n, HJT.out]; exact congrArg (fun z => yins.take j ++ [z]) h)
              generalize xins[j] = xi at *
              generalize yins[j] = yi at *
              clear hjx hjl hj
              by_cases hij : xi = yi
              · have HTN := Lib.hid (HTJ.out hij)
                subst hij
                go_upto_region 12 with fail
                go_region
                go_wp2
                exact ⟨⟨j + 1, HJL.out, by go_num, HTN.out, HJX.out.drew⟩, by have := HJL.out; simp [intOf]; omega⟩
              · have HN := Lib.hid (HNE.out (fun e => by injection e with a1 a2 a3 a4 a5 a6; exact HNJ.out hij a2))
                have hij2 : (xi != yi) = true := by simpa using hij
                go_upto_region 12 with fail
                go_region
                go_wp2
                go_ret
                exact HNO.out _ _ HN.out rfl (HX4.out.trans HJX.out).drew
            · obtain rfl : j = xins.length := by omega
              have r1 : ¬ (xins.length : Int) < (xins.length : Int) := by omega
              have HIN := Lib.hid (show xins = yins by have := HJT.out; rw [List.take_length, HIL.out, List.take_length] at this; exact this)
              have HTK := Lib.hid (HEQ.out (by rw [HIN.out, HBD.out]))
              have HXF := Lib.hid (HX4.out.trans HJX.out)
              clear hjx hj hjl
              go_wp2
              exact ⟨⟨k + 1, HLT.out, by go_num, HTK.out, HXF.out⟩, by have := HLT.out; simp [intOf]; omega⟩
      · obtain rfl : k = l.length := by omega
        have q1 : ¬ (l.length : Int) < (l.length : Int) := by omega
        have HQ := Lib.hid (show l = r by have := HP.out; rw [List.take_length, HLEN.out, List.take_length] at this; exact this)
        clear hext hk hlt
        go_wp2
        go_ret
        exact ⟨true, rfl, ⟨fun _ => HQ.out, fun _ => rfl⟩, HE.out⟩
end Go.Proofs.YtpmgmiiidfconaaGreatDoor
namespace Go.Proofs.YtpmgmiiidfconaaGreatDoor
open Go.RowKit Go.Ox Go.Ox.Gr
set_option linter.unusedVariables false
set_option linter.unusedSimpArgs false
attribute [local irreducible] RE NodesR
/-- what is told of two of anything -/
def EqP {α : Type} (x y : α) (w : World) (e : Ending) (w' : World) : Prop := ∃ b, e = .returned (.bool b) ∧ (b = true ↔ x = y) ∧ Ext w w'
theorem EqP.no {α : Type} {x y : α} {w w' : World} {e : Ending} (h : x ≠ y) (he : e = .returned (.bool false)) (hx : Ext w w') : EqP x y w e w' := ⟨false, he, Iff.intro (fun q => Bool.noConfusion q) (fun q => absurd q h), hx⟩
theorem EqP.yes {α : Type} {x y : α} {w w' : World} {e : Ending} (h : x = y) (he : e = .returned (.bool true)) (hx : Ext w w') : EqP x y w e w' := ⟨true, he, Iff.intro (fun _ => h) (fun _ => rfl), hx⟩
set_option maxRecDepth 100000 in
set_option maxHeartbeats 4000000 in
theorem rSameG_any (K d d' : Nat) (v u : Value) (l r : List Nd) (a b : Int) (w : World) (hK : K ≤ 4) (hs : Sm K l) (hv : NodesR d w v l) (hu : NodesR d' w u r) :
    Calls Tryz.prog 37 #[gAg v a, gAg u b] w (EqP ((l, a) : G) (r, b) w) := by
  obtain ⟨A, c, rfl⟩ := hv.form
  obtain ⟨B, e, rfl⟩ := hu.form
  have HX0 := Lib.hid (((Ext.refl w).alloc (gCs (.slice A l.length c) a)).alloc (gCs (.slice B r.length e) b))
  have HB0 := Lib.hid ((Blk.new w 39 #[.slice A l.length c, .int .i64 a]).ext ((Ext.refl _).alloc (gCs (.slice B r.length e) b)))
  have HC0 := Lib.hid (Blk.new (w.alloc (gCs (.slice A l.length c) a)) 39 #[.slice B r.length e, .int .i64 b])
  have HS := Lib.hid (fun w' hv hu => rsameN_any K d d' (.slice A l.length c) (.slice B r.length e) l r w' hK hs hv hu)
  have HV := Lib.hid (hv.ext HX0.out)
  have HU := Lib.hid (hu.ext HX0.out)
  have HNO := Lib.hid (fun w' e h1 h2 h3 => @EqP.no G (l, a) (r, b) w w' e h1 h2 h3)
  have HYES := Lib.hid (fun w' e h1 h2 h3 => @EqP.yes G (l, a) (r, b) w w' e h1 h2 h3)
  clear hv hu hs
  go_enter Tryz.func37, Tryz.ntmps37
  go_upto_region 1 with fail
  obtain ⟨p, hp⟩ : ∃ p, p = w.heap.size := ⟨_, rfl⟩
  have hq : (w.alloc (gCs (.slice A l.length c) a)).heap.size = p + 1 := by rw [hp]; simp
  rw [hq] at HC0
  rw [← hp] at HB0 ⊢
  have HP := Lib.hid hp
  clear hp hq
  generalize (w.alloc (gCs (.slice A l.length c) a)).alloc (gCs (.slice B r.length e) b) = w0 at *
  have c0 : w0.cell? ⟨p, 0, none⟩ = some (.slice A l.length c) := HB0.out.cell 0
  have c1 : w0.cell? ⟨p, 1, none⟩ = some (.int .i64 a) := HB0.out.cell 1
  have d0 : w0.cell? ⟨p + 1, 0, none⟩ = some (.slice B r.length e) := HC0.out.cell 0
  have d1 : w0.cell? ⟨p + 1, 1, none⟩ = some (.int .i64 b) := HC0.out.cell 1
  by_cases hab : a = b
  case neg =>
    have HN := Lib.hid (show ((l, a) : G) ≠ (r, b) from fun q => hab (congrArg Prod.snd q))
    have hb : (a == b) = false := by simpa using hab
    go_wp2
    go_ret
    exact HNO.out _ _ HN.out rfl HX0.out
  have HAB := Lib.hid hab
  have hb : (a == b) = true := by simpa using hab
  clear hab
  go_wp2_with fail
  refine (HS.out _ HV.out HU.out).mono ?_
  rintro e w1 ⟨bb, rfl, hbb, he1⟩
  have HX1 := Lib.hid (HX0.out.trans he1)
  cases bb with
  | false =>
    have HN := Lib.hid (show ((l, a) : G) ≠ (r, b) from fun q => by have := hbb.2 (congrArg Prod.fst q); cases this)
    clear hbb
    go_wp2
    go_ret
    exact HNO.out _ _ HN.out rfl HX1.out
  | true =>
    have HN := Lib.hid (show ((l, a) : G) = (r, b) from by rw [hbb.1 rfl, HAB.out])
    clear hbb
    go_wp2
    go_ret
    exact HYES.out _ _ HN.out rfl HX1.out
end Go.Proofs.YtpmgmiiidfconaaGreatDoor
