/-
  GrDeep, GrSame, packed: what the claim needs of them.
-/
import Derived.Test.YtcacicgkebcdkaaPs14
import Derived.BigRegion
import Derived.Test.YtcacicgkebcdkaaPs12
import Derived.Test.YtcacicgkebcdkaaPs17
namespace Go.Ox.Gr
/-- too deep, or too large: at most k levels are looked at -/
def deepB : Nat → List Nd → Bool
  | 0, _ => true
  | k + 1, l => decide (40 < l.length) || l.any fun n => decide (40 < n.ins.length) || (decide (0 < n.body.length) && deepB k n.body)
def deepN (k : Nat) (n : Nd) : Bool := decide (40 < n.ins.length) || (decide (0 < n.body.length) && deepB k n.body)
def anyD (k : Nat) (l : List Nd) : Bool := l.any (deepN k)
theorem anyD_s (k : Nat) (l : List Nd) {i : Nat} (h : i < l.length) : anyD k (l.take (i + 1)) = (anyD k (l.take i) || deepN k l[i]) := by
  unfold anyD
  rw [List.take_succ_eq_append_getElem h, List.any_append]
  simp
theorem anyD_hit (k : Nat) (l : List Nd) {i : Nat} (h : i < l.length) (hd : deepN k l[i] = true) : anyD k l = true := List.any_eq_true.2 ⟨_, List.getElem_mem h, hd⟩
theorem deepB_s (k : Nat) (l : List Nd) : deepB (k + 1) l = (decide (40 < l.length) || anyD k l) := rfl
/-- what is not too large: at most 40 of everything -/
theorem deep_ok {k : Nat} {l : List Nd} (h : deepB (k + 1) l = false) : l.length ≤ 40 ∧ ∀ n ∈ l, n.ins.length ≤ 40 ∧ (n.body = [] ∨ deepB k n.body = false) := by
  rw [deepB_s, Bool.or_eq_false_iff, decide_eq_false_iff_not] at h
  refine ⟨by omega, fun n hn => ?_⟩
  have h2 : deepN k n = false := by
    have := h.2
    unfold anyD at this
    rw [List.any_eq_false] at this
    simpa using this n hn
  unfold deepN at h2
  rw [Bool.or_eq_false_iff, decide_eq_false_iff_not, Bool.and_eq_false_iff, decide_eq_false_iff_not] at h2
  refine ⟨by omega, h2.2.imp (fun q => ?_) id⟩
  exact List.eq_nil_of_length_eq_zero (by omega)
theorem deep_body {k : Nat} {l : List Nd} (h : deepB (k + 1) l = false) {n : Nd} (hn : n ∈ l) : n.body.length ≤ 40 := by
  rcases ((deep_ok h).2 n hn).2 with q | q
  · rw [q]; simp
  · cases k with
    | zero => cases q
    | succ k => exact (deep_ok q).1
end Go.Ox.Gr
namespace Go.Proofs.Ytcacicgkebcdkaa
open Go.RowKit Go.Ox Go.Ox.Gr
set_option linter.unusedVariables false
set_option linter.unusedSimpArgs false
attribute [local irreducible] RE NodesR deepB
set_option maxRecDepth 100000 in
set_option maxHeartbeats 4000000 in
theorem deep_any : ∀ (k : Nat) (D : Int) (d : Nat) (v : Value) (l : List Nd) (w : World), k ≤ 4 → D = 4 - (k : Int) → NodesR d w v l →
    Calls Try.prog 23 #[v, .int .i64 D] w fun e w' => e = .returned (.bool (deepB k l)) ∧ w = w' := by
  intro k
  induction k with
  | zero =>
    intro D d v l w _ hD hv
    obtain ⟨A, c, rfl⟩ := hv.form
    have g1 : (3 : Int) < D := by omega
    rw [show deepB 0 l = true by unfold deepB; rfl]
    clear hv hD
    by_cases h : 40 < l.length
    · have g2 : (40 : Int) < (l.length : Int) := by omega
      clear h
      go_enter Try.func23, Try.ntmps23
      go_wp2
      go_ret
      exact ⟨rfl, rfl⟩
    · have g2 : ¬ (40 : Int) < (l.length : Int) := by omega
      clear h
      go_enter Try.func23, Try.ntmps23
      go_wp2
      go_ret
      exact ⟨rfl, rfl⟩
  | succ k ih =>
    intro D d v l w hk4 hD hv
    have HV := Lib.hid hv
    obtain ⟨A, c, rfl⟩ := hv.form
    have g1 : ¬ (3 : Int) < D := by omega
    have hd1 : IntKind.i64.wrap (D + 1) = 4 - (k : Int) := by rw [IntWalk.i64_in _ (by omega)]; omega
    have IH := Lib.hid (fun d v l w hv => ih (4 - (k : Int)) d v l w (by omega) rfl hv)
    have HB := Lib.hid (deepB_s k l)
    generalize deepB (k + 1) l = R at *
    clear hv hD ih
    by_cases h : 40 < l.length
    · have g2 : (40 : Int) < (l.length : Int) := by omega
      have HR := Lib.hid (show R = true by rw [HB.out, decide_eq_true h]; rfl)
      clear h
      go_enter Try.func23, Try.ntmps23
      go_wp2
      go_ret
      exact ⟨by rw [HR.out]; rfl, rfl⟩
    · have g2 : ¬ (40 : Int) < (l.length : Int) := by omega
      have H40 := Lib.hid (show l.length ≤ 40 by omega)
      rw [decide_eq_false h, Bool.false_or] at HB
      clear h hk4
      obtain ⟨K, hK⟩ : ∃ K : Int, K = 4 - (k : Int) := ⟨_, rfl⟩
      rw [← hK] at hd1 IH
      clear hK
      go_enter Try.func23, Try.ntmps23
      go_wp2
      go_loopw [5] (fun iv wr => ∃ i : Nat, i ≤ l.length ∧ iv = .int .i64 (i : Int) ∧ anyD k (l.take i) = false ∧ w = wr) (fun iv _ => l.length - (intOf iv).toNat)
      case atStart => exact ⟨0, Nat.zero_le _, rfl, rfl, rfl⟩
      case round =>
        obtain ⟨i, hi, rfl, hp, rfl⟩ := hrel
        have HP := Lib.hid hp
        have hib : i ≤ 40 := by have := H40.out; omega
        clear hp
        by_cases hlt : i < l.length
        · have q1 : (i : Int) < (l.length : Int) := by omega
          have q0 : 0 ≤ (i : Int) := by omega
          have q1n : i < l.length := hlt
          have HLT := Lib.hid hlt
          obtain ⟨bA, oA, u, bv, rfl, e0, e1, e2, e3, e4, e5, hu, hbv⟩ := HV.out.at_ hlt
          have HS := Lib.hid (anyD_s k l hlt)
          have HT := Lib.hid (anyD_hit k l hlt)
          rw [HP.out, Bool.false_or] at HS
          have HN := Lib.hid (show deepN k l[i] = (decide (40 < l[i].ins.length) || (decide (0 < l[i].body.length) && deepB k l[i].body)) from rfl)
          generalize deepN k l[i] = r at *
          generalize l[i] = x at *
          obtain ⟨op, ins, kind, fa, a, body⟩ := x
          simp only [Nd.op, Nd.kind, Nd.fa, Nd.a, Nd.ins, Nd.body] at e0 e2 e3 e4 hu hbv
          replace HN := Lib.hid (show r = (decide (40 < ins.length) || (decide (0 < body.length) && deepB k body)) from HN.out)
          have HC := Lib.hid (IH.out _ bv body w hbv)
          obtain ⟨Au, cu, rfl⟩ := hu.form
          obtain ⟨Ab, cb, rfl⟩ := hbv.form
          clear hu hbv hlt hi e0 e2 e3 e4
          by_cases hin : 40 < ins.length
          · have HR := Lib.hid (show R = true by rw [HB.out]; exact HT.out (by rw [HN.out, decide_eq_true hin]; rfl))
            have g3 : (40 : Int) < (ins.length : Int) := by omega
            clear hin
            go_wp2_with fail
            go_ret
            exact ⟨by rw [HR.out]; rfl, rfl⟩
          have g3 : ¬ (40 : Int) < (ins.length : Int) := by omega
          rw [decide_eq_false hin, Bool.false_or] at HN
          clear hin
          by_cases hbn : 0 < body.length
          · rw [decide_eq_true hbn, Bool.true_and] at HN
            have g4 : (0 : Int) < (body.length : Int) := by omega
            clear hbn
            generalize deepB k body = db at *
            go_wp2_with fail
            refine HC.out.mono ?_
            rintro e w' ⟨rfl, rfl⟩
            cases db with
            | true =>
              have HR := Lib.hid (show R = true by rw [HB.out]; exact HT.out HN.out)
              go_wp2
              go_ret
              exact ⟨by rw [HR.out]; rfl, rfl⟩
            | false =>
              go_wp2
              exact ⟨⟨i + 1, HLT.out, by go_num, by rw [HS.out, HN.out], by first | rfl | trivial⟩, by have := HLT.out; simp [intOf]; omega⟩
          · rw [decide_eq_false hbn, Bool.false_and] at HN
            have g4 : ¬ (0 : Int) < (body.length : Int) := by omega
            clear hbn
            go_wp2_with fail
            exact ⟨⟨i + 1, HLT.out, by go_num, by rw [HS.out, HN.out], by first | rfl | trivial⟩, by have := HLT.out; simp [intOf]; omega⟩
        · obtain rfl : i = l.length := by omega
          have q1 : ¬ (l.length : Int) < (l.length : Int) := by omega
          rw [List.take_length] at HP
          have HR := Lib.hid (show R = false by rw [HB.out, HP.out])
          go_wp2
          go_ret
          exact ⟨by rw [HR.out]; rfl, rfl⟩
def largeB (l : List Nd) : Bool := deepB 4 l
end Go.Proofs.Ytcacicgkebcdkaa
namespace Go.Ox.Gr
/-- at most 40 of everything, k levels -/
def Sm : Nat → List Nd → Prop
  | 0, l => l = []
  | k + 1, l => l.length ≤ 40 ∧ ∀ n ∈ l, n.ins.length ≤ 40 ∧ Sm k n.body
theorem Sm.nil : ∀ (k : Nat), Sm k []
  | 0 => rfl
  | k + 1 => ⟨by simp, fun n hn => by simp at hn⟩
theorem Sm.facts {k : Nat} {l : List Nd} (h : Sm k l) : l.length ≤ 40 ∧ ∀ n ∈ l, n.ins.length ≤ 40 ∧ Sm (k - 1) n.body := by
  cases k with
  | zero => cases h; exact ⟨by simp, fun n hn => by simp at hn⟩
  | succ k => exact h
end Go.Ox.Gr
namespace Go.Proofs.Ytcacicgkebcdkaa
open Go.RowKit Go.Ox Go.Ox.Gr
set_option linter.unusedVariables false
set_option linter.unusedSimpArgs false
attribute [local irreducible] RE NodesR
/-- what is told of two lists -/
def SameP (l r : List Nd) (w : World) (e : Ending) (w' : World) : Prop := ∃ b, e = .returned (.bool b) ∧ (b = true ↔ l = r) ∧ Ext w w'
theorem SameP.no {l r : List Nd} {w w' : World} {e : Ending} (h : l ≠ r) (he : e = .returned (.bool false)) (hx : Ext w w') : SameP l r w e w' := ⟨false, he, Iff.intro (fun q => Bool.noConfusion q) (fun q => absurd q h), hx⟩
end Go.Proofs.Ytcacicgkebcdkaa
namespace Go.Proofs.Ytcacicgkebcdkaa
open Go.RowKit Go.Ox Go.Ox.Gr
set_option linter.unusedVariables false
set_option linter.unusedSimpArgs false
attribute [local irreducible] RE NodesR
/-- what is told of two of anything -/
def EqP {α : Type} (x y : α) (w : World) (e : Ending) (w' : World) : Prop := ∃ b, e = .returned (.bool b) ∧ (b = true ↔ x = y) ∧ Ext w w'
theorem EqP.no {α : Type} {x y : α} {w w' : World} {e : Ending} (h : x ≠ y) (he : e = .returned (.bool false)) (hx : Ext w w') : EqP x y w e w' := ⟨false, he, Iff.intro (fun q => Bool.noConfusion q) (fun q => absurd q h), hx⟩
end Go.Proofs.Ytcacicgkebcdkaa
