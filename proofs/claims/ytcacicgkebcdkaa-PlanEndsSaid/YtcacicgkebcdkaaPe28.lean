/-
  GrDeep, GrSame, GrLawMath, packed: what the claim needs of them.
-/
import Derived.Test.YtcacicgkebcdkaaPe13
import Derived.BigRegion
import Derived.Test.YtcacicgkebcdkaaPe11
import Derived.Test.YtcacicgkebcdkaaPe16
import Derived.Test.YtcacicgkebcdkaaPe25
import Derived.Test.YtcacicgkebcdkaaPe26
import Derived.Test.YtcacicgkebcdkaaPe23
import Derived.Test.YtcacicgkebcdkaaPe27
set_option linter.unusedSimpArgs false
set_option linter.unusedVariables false
set_option maxRecDepth 100000
namespace Go.Ox.Gr
def deepB : Nat → List Nd → Bool
  | 0, _ => true
  | k + 1, l => decide (40 < l.length) || l.any fun n => decide (40 < n.ins.length) || (decide (0 < n.body.length) && deepB k n.body)
def deepN (k : Nat) (n : Nd) : Bool := decide (40 < n.ins.length) || (decide (0 < n.body.length) && deepB k n.body)
def anyD (k : Nat) (l : List Nd) : Bool := l.any (deepN k)
theorem anyD_s (k : Nat) (l : List Nd) {i : Nat} (h : i < l.length) : anyD k (l.take (i + 1)) = (anyD k (l.take i) || deepN k l[i]) := by
  unfold anyD
  rw [List.take_succ_eq_append_getElem h, List.any_append]
  simp
theorem anyD_hit (k : Nat) (l : List Nd) {i : Nat} (h : i < l.length) (hd : deepN k l[i] = true) : anyD k l = true := List.any_eq_true.2 ⟨_, List.getElem_mem h, hd⟩
theorem deepB_s (k : Nat) (l : List Nd) : deepB (k + 1) l = (decide (40 < l.length) || anyD k l) := rfl
theorem deep_ok {k : Nat} {l : List Nd} (h : deepB (k + 1) l = false) : l.length ≤ 40 ∧ ∀ n ∈ l, n.ins.length ≤ 40 ∧ (n.body = [] ∨ deepB k n.body = false) := by
  rw [deepB_s, Bool.or_eq_false_iff, decide_eq_false_iff_not] at h
  refine ⟨by omega, fun n hn => ?_⟩
  have h2 : deepN k n = false := by
    have := h.2
    unfold anyD at this
    rw [List.any_eq_false] at this
    simpa using this n hn
  unfold deepN at h2
  rw [Bool.or_eq_false_iff, decide_eq_false_iff_not, Bool.and_eq_false_iff, decide_eq_false_iff_not] at h2
  refine ⟨by omega, h2.2.imp (fun q => ?_) id⟩
  exact List.eq_nil_of_length_eq_zero (by omega)
theorem deep_body {k : Nat} {l : List Nd} (h : deepB (k + 1) l = false) {n : Nd} (hn : n ∈ l) : n.body.length ≤ 40 := by
  rcases ((deep_ok h).2 n hn).2 with q | q
  · rw [q]; simp
  · cases k with
    | zero => cases q
    | succ k => exact (deep_ok q).1
end Go.Ox.Gr
namespace Go.Proofs.Ytcacicgkebcdkaa
open Go.RowKit Go.Ox Go.Ox.Gr
attribute [local irreducible] RE NodesR deepB
set_option maxHeartbeats 4000000 in
theorem deep_any : ∀ (k : Nat) (D : Int) (d : Nat) (v : Value) (l : List Nd) (w : World), k ≤ 4 → D = 4 - (k : Int) → NodesR d w v l →
    Calls Try.prog 23 #[v, .int .i64 D] w fun e w' => e = .returned (.bool (deepB k l)) ∧ w = w' := by
  intro k
  induction k with
  | zero =>
    intro D d v l w _ hD hv
    obtain ⟨A, c, rfl⟩ := hv.form
    have g1 : (3 : Int) < D := by omega
    rw [show deepB 0 l = true by unfold deepB; rfl]
    clear hv hD
    by_cases h : 40 < l.length
    · have g2 : (40 : Int) < (l.length : Int) := by omega
      clear h
      go_enter Try.func23, Try.ntmps23
      go_wp2
      go_ret
      exact ⟨rfl, rfl⟩
    · have g2 : ¬ (40 : Int) < (l.length : Int) := by omega
      clear h
      go_enter Try.func23, Try.ntmps23
      go_wp2
      go_ret
      exact ⟨rfl, rfl⟩
  | succ k ih =>
    intro D d v l w hk4 hD hv
    have HV := Lib.hid hv
    obtain ⟨A, c, rfl⟩ := hv.form
    have g1 : ¬ (3 : Int) < D := by omega
    have hd1 : IntKind.i64.wrap (D + 1) = 4 - (k : Int) := by rw [IntWalk.i64_in _ (by omega)]; omega
    have IH := Lib.hid (fun d v l w hv => ih (4 - (k : Int)) d v l w (by omega) rfl hv)
    have HB := Lib.hid (deepB_s k l)
    generalize deepB (k + 1) l = R at *
    clear hv hD ih
    by_cases h : 40 < l.length
    · have g2 : (40 : Int) < (l.length : Int) := by omega
      have HR := Lib.hid (show R = true by rw [HB.out, decide_eq_true h]; rfl)
      clear h
      go_enter Try.func23, Try.ntmps23
      go_wp2
      go_ret
      exact ⟨by rw [HR.out]; rfl, rfl⟩
    · have g2 : ¬ (40 : Int) < (l.length : Int) := by omega
      have H40 := Lib.hid (show l.length ≤ 40 by omega)
      rw [decide_eq_false h, Bool.false_or] at HB
      clear h hk4
      obtain ⟨K, hK⟩ : ∃ K : Int, K = 4 - (k : Int) := ⟨_, rfl⟩
      rw [← hK] at hd1 IH
      clear hK
      go_enter Try.func23, Try.ntmps23
      go_wp2
      go_loopw [5] (fun iv wr => ∃ i : Nat, i ≤ l.length ∧ iv = .int .i64 (i : Int) ∧ anyD k (l.take i) = false ∧ w = wr) (fun iv _ => l.length - (intOf iv).toNat)
      case atStart => exact ⟨0, Nat.zero_le _, rfl, rfl, rfl⟩
      case round =>
        obtain ⟨i, hi, rfl, hp, rfl⟩ := hrel
        have HP := Lib.hid hp
        have hib : i ≤ 40 := by have := H40.out; omega
        clear hp
        by_cases hlt : i < l.length
        · have q1 : (i : Int) < (l.length : Int) := by omega
          have q0 : 0 ≤ (i : Int) := by omega
          have q1n : i < l.length := hlt
          have HLT := Lib.hid hlt
          obtain ⟨bA, oA, u, bv, rfl, e0, e1, e2, e3, e4, e5, hu, hbv⟩ := HV.out.at_ hlt
          have HS := Lib.hid (anyD_s k l hlt)
          have HT := Lib.hid (anyD_hit k l hlt)
          rw [HP.out, Bool.false_or] at HS
          have HN := Lib.hid (show deepN k l[i] = (decide (40 < l[i].ins.length) || (decide (0 < l[i].body.length) && deepB k l[i].body)) from rfl)
          generalize deepN k l[i] = r at *
          generalize l[i] = x at *
          obtain ⟨op, ins, kind, fa, a, body⟩ := x
          simp only [Nd.op, Nd.kind, Nd.fa, Nd.a, Nd.ins, Nd.body] at e0 e2 e3 e4 hu hbv
          replace HN := Lib.hid (show r = (decide (40 < ins.length) || (decide (0 < body.length) && deepB k body)) from HN.out)
          have HC := Lib.hid (IH.out _ bv body w hbv)
          obtain ⟨Au, cu, rfl⟩ := hu.form
          obtain ⟨Ab, cb, rfl⟩ := hbv.form
          clear hu hbv hlt hi e0 e2 e3 e4
          by_cases hin : 40 < ins.length
          · have HR := Lib.hid (show R = true by rw [HB.out]; exact HT.out (by rw [HN.out, decide_eq_true hin]; rfl))
            have g3 : (40 : Int) < (ins.length : Int) := by omega
            clear hin
            go_wp2_with fail
            go_ret
            exact ⟨by rw [HR.out]; rfl, rfl⟩
          have g3 : ¬ (40 : Int) < (ins.length : Int) := by omega
          rw [decide_eq_false hin, Bool.false_or] at HN
          clear hin
          by_cases hbn : 0 < body.length
          · rw [decide_eq_true hbn, Bool.true_and] at HN
            have g4 : (0 : Int) < (body.length : Int) := by omega
            clear hbn
            generalize deepB k body = db at *
            go_wp2_with fail
            refine HC.out.mono ?_
            rintro e w' ⟨rfl, rfl⟩
            cases db with
            | true =>
              have HR := Lib.hid (show R = true by rw [HB.out]; exact HT.out HN.out)
              go_wp2
              go_ret
              exact ⟨by rw [HR.out]; rfl, rfl⟩
            | false =>
              go_wp2
              exact ⟨⟨i + 1, HLT.out, by go_num, by rw [HS.out, HN.out], by first | rfl | trivial⟩, by have := HLT.out; simp [intOf]; omega⟩
          · rw [decide_eq_false hbn, Bool.false_and] at HN
            have g4 : ¬ (0 : Int) < (body.length : Int) := by omega
            clear hbn
            go_wp2_with fail
            exact ⟨⟨i + 1, HLT.out, by go_num, by rw [HS.out, HN.out], by first | rfl | trivial⟩, by have := HLT.out; simp [intOf]; omega⟩
        · obtain rfl : i = l.length := by omega
          have q1 : ¬ (l.length : Int) < (l.length : Int) := by omega
          rw [List.take_length] at HP
          have HR := Lib.hid (show R = false by rw [HB.out, HP.out])
          go_wp2
          go_ret
          exact ⟨by rw [HR.out]; rfl, rfl⟩
def largeB (l : List Nd) : Bool := deepB 4 l
end Go.Proofs.Ytcacicgkebcdkaa
namespace Go.Ox.Gr
def Sm : Nat → List Nd → Prop
  | 0, l => l = []
  | k + 1, l => l.length ≤ 40 ∧ ∀ n ∈ l, n.ins.length ≤ 40 ∧ Sm k n.body
theorem Sm.nil : ∀ (k : Nat), Sm k []
  | 0 => rfl
  | k + 1 => ⟨by simp, fun n hn => by simp at hn⟩
theorem Sm.facts {k : Nat} {l : List Nd} (h : Sm k l) : l.length ≤ 40 ∧ ∀ n ∈ l, n.ins.length ≤ 40 ∧ Sm (k - 1) n.body := by
  cases k with
  | zero => cases h; exact ⟨by simp, fun n hn => by simp at hn⟩
  | succ k => exact h
end Go.Ox.Gr
namespace Go.Proofs.Ytcacicgkebcdkaa
open Go.RowKit Go.Ox Go.Ox.Gr
attribute [local irreducible] RE NodesR
def SameP (l r : List Nd) (w : World) (e : Ending) (w' : World) : Prop := ∃ b, e = .returned (.bool b) ∧ (b = true ↔ l = r) ∧ Ext w w'
theorem SameP.no {l r : List Nd} {w w' : World} {e : Ending} (h : l ≠ r) (he : e = .returned (.bool false)) (hx : Ext w w') : SameP l r w e w' := ⟨false, he, Iff.intro (fun q => Bool.noConfusion q) (fun q => absurd q h), hx⟩
end Go.Proofs.Ytcacicgkebcdkaa
namespace Go.Proofs.Ytcacicgkebcdkaa
open Go.RowKit Go.Ox Go.Ox.Gr
attribute [local irreducible] RE NodesR
def EqP {α : Type} (x y : α) (w : World) (e : Ending) (w' : World) : Prop := ∃ b, e = .returned (.bool b) ∧ (b = true ↔ x = y) ∧ Ext w w'
theorem EqP.no {α : Type} {x y : α} {w w' : World} {e : Ending} (h : x ≠ y) (he : e = .returned (.bool false)) (hx : Ext w w') : EqP x y w e w' := ⟨false, he, Iff.intro (fun q => Bool.noConfusion q) (fun q => absurd q h), hx⟩
end Go.Proofs.Ytcacicgkebcdkaa
namespace Go.Ox.Gr
theorem gOk_parts {l : List Nd} {out : Int} (h : gOk (l, out) = true) : 1 ≤ l.length ∧ l.length ≤ 32 ∧ each outOk l 0 = true ∧ 0 ≤ out ∧ out < (l.length : Int) ∧ loops l ≤ 1 := by
  unfold gOk listOk at h
  simp only [Bool.and_eq_true, decide_eq_true_eq] at h
  exact ⟨h.1.1, h.1.2.1, h.1.2.2, h.2.1, h.2.2.1, h.2.2.2⟩
theorem ok_base {n : Nd} {i : Nat} (h : base n i = true) : 1 ≤ n.op ∧ n.op ≤ 11 ∧ n.ins.length ≤ 2 ∧ ∀ x ∈ n.ins, 0 ≤ x ∧ x < (i : Int) := by
  refine ⟨?_, ?_, base_ins h, ?_⟩
  all_goals
    unfold base opOk insOk at h
    simp only [Bool.and_eq_true, decide_eq_true_eq, List.all_eq_true] at h
  · exact h.1.1
  · exact h.1.2
  · exact h.2.2
theorem ok_fn {n : Nd} (h : fnOk n = true) : okI n.kind ∧ okI n.fa := by
  unfold fnOk at h
  unfold okI
  split at h
  · simp only [Bool.and_eq_true, decide_eq_true_eq] at h
    omega
  · rename_i hf
    simp only [decide_eq_true_eq] at h
    unfold fam at h
    split at h
    · omega
    · rename_i hr
      have hk : 1 ≤ n.kind ∧ n.kind ≤ 23 := by
        unfold fk at h
        repeat' split at h
        all_goals omega
      have h1 : 0 ≤ lst n.kind := by unfold lst; split <;> omega
      have h2 : mst n.kind ≤ 1048575 := by unfold mst; repeat' split <;> omega
      omega
theorem ok_num {n : Nd} {loop : Int} (h : numOk n loop = true) (hl : loop ≤ 1000) : okI n.a := by
  unfold numOk at h
  unfold okI
  repeat' split at h
  all_goals
    simp only [Bool.and_eq_true, decide_eq_true_eq] at h
    omega
theorem ok_top {l : List Nd} {out : Int} (h : gOk (l, out) = true) {k : Nat} (hk : k < l.length) : base l[k] k = true ∧ fnOk l[k] = true ∧ numOk l[k] (-1) = true ∧ ((l[k].op = 9 ∧ bodyOk l[k].body k = true) ∨ (l[k].op ≠ 9 ∧ l[k].body = [])) := by
  have h1 := each_all (gOk_parts h).2.2.1 k hk
  rw [Nat.zero_add] at h1
  unfold outOk at h1
  simp only [Bool.and_eq_true] at h1
  refine ⟨h1.1, h1.2.1, h1.2.2.1, ?_⟩
  have h2 := h1.2.2.2
  split at h2
  · rename_i q; exact .inl ⟨q, h2⟩
  · rename_i q; exact .inr ⟨q, List.isEmpty_iff.1 h2⟩
theorem ok_body {l : List Nd} {k : Nat} (h : bodyOk l k = true) : 1 ≤ l.length ∧ l.length ≤ 32 ∧ ∀ (j : Nat) (hj : j < l.length), base l[j] j = true ∧ fnOk l[j] = true ∧ numOk l[j] (k : Int) = true ∧ l[j].body = [] := by
  unfold bodyOk at h
  simp only [Bool.and_eq_true, decide_eq_true_eq] at h
  refine ⟨h.1, h.2.1, fun j hj => ?_⟩
  have h3 := each_all h.2.2 j hj
  rw [Nat.zero_add] at h3
  unfold inOk at h3
  simp only [Bool.and_eq_true] at h3
  exact ⟨h3.1, h3.2.1, h3.2.2.1, List.isEmpty_iff.1 h3.2.2.2⟩
theorem ok_one {n : Nd} {i : Nat} {loop : Int} (hi : i ≤ 1000) (hl : loop ≤ 1000) (h1 : base n i = true) (h2 : fnOk n = true) (h3 : numOk n loop = true) :
    okI n.op ∧ okI n.kind ∧ okI n.fa ∧ okI n.a ∧ n.ins.length ≤ 2 ∧ ∀ x ∈ n.ins, okI x := by
  obtain ⟨a1, a2, a3, a4⟩ := ok_base h1
  exact ⟨by unfold okI; omega, (ok_fn h2).1, (ok_fn h2).2, ok_num h3 hl, a3, fun x hx => by have := a4 x hx; unfold okI; omega⟩
theorem gOk_fit {l : List Nd} {out : Int} (h : gOk (l, out) = true) : Fit 2 l ∧ okI out := by
  have hp := gOk_parts h
  refine ⟨⟨hp.2.1, fun n hn => ?_⟩, by unfold okI; omega⟩
  obtain ⟨k, hk, rfl⟩ := List.getElem_of_mem hn
  obtain ⟨b1, b2, b3, b4⟩ := ok_top h hk
  refine ⟨ok_one (by omega) (by omega) b1 b2 b3, ?_⟩
  rcases b4 with ⟨h9, hb⟩ | ⟨h9, hb⟩
  · obtain ⟨c1, c2, c3⟩ := ok_body hb
    refine ⟨c2, fun m hm => ?_⟩
    obtain ⟨j, hj, rfl⟩ := List.getElem_of_mem hm
    obtain ⟨d1, d2, d3, d4⟩ := c3 j hj
    exact ⟨ok_one (by omega) (by omega) d1 d2 d3, d4⟩
  · rw [hb]
    exact ⟨by simp, fun m hm => by simp at hm⟩
theorem Sm.up : ∀ {k : Nat} {l : List Nd}, Sm k l → Sm (k + 1) l
  | 0, l, h => by cases h; exact Sm.nil 1
  | k + 1, l, h => ⟨h.1, fun n hn => ⟨(h.2 n hn).1, Sm.up (h.2 n hn).2⟩⟩
theorem gOk_Lk {l : List Nd} {out : Int} (h : gOk (l, out) = true) : Lk l := by
  have hf := (gOk_fit h).1
  refine ⟨by have := hf.1; omega, fun n hn => ?_⟩
  have h2 := (hf.2 n hn).2
  exact ⟨by have := h2.1; omega, by have := (hf.2 n hn).1.2.2.2.2.1; omega, fun m hm => by have := (h2.2 m hm).1.2.2.2.2.1; omega⟩
theorem loops_cons (n : Nd) (l : List Nd) : loops (n :: l) = (if n.op = 9 then 1 else 0) + loops l := by
  unfold loops
  by_cases h : n.op = 9 <;> simp [h, Nat.add_comm]
theorem loops_zero : ∀ {l : List Nd}, loops l = 0 → ∀ n ∈ l, n.op ≠ 9
  | n :: l, h, m, hm => by
    rw [loops_cons] at h
    rcases List.mem_cons.1 hm with rfl | hm
    · intro q; rw [if_pos q] at h; omega
    · exact loops_zero (by omega) m hm
def fmFrom {α : Type} (F : Nat → Nd → List α) : List Nd → Nat → List α
  | [], _ => []
  | n :: l, i => F i n ++ fmFrom F l (i + 1)
theorem fmFrom_nil {α : Type} {F : Nat → Nd → List α} : ∀ {l : List Nd} {i : Nat}, (∀ i, ∀ n ∈ l, F i n = []) → fmFrom F l i = []
  | [], _, _ => rfl
  | n :: l, i, h => by
    unfold fmFrom
    rw [h i n List.mem_cons_self, fmFrom_nil fun i m hm => h i m (List.mem_cons_of_mem _ hm)]
    rfl
theorem only_loop {α : Type} {F : Nat → Nd → List α} : ∀ {l : List Nd} {i : Nat}, loops l ≤ 1 → (∀ i, ∀ n ∈ l, n.op ≠ 9 → F i n = []) →
    fmFrom F l i = if 0 ≤ loopFrom l i then F (loopFrom l i).toNat (l[(loopFrom l i).toNat - i]?.getD default) else []
  | [], i, _, _ => rfl
  | n :: l, i, hl, h => by
    rw [loops_cons] at hl
    unfold fmFrom
    by_cases h9 : n.op = 9
    · rw [if_pos h9] at hl
      rw [fmFrom_nil (l := l) fun i m hm => h i m (List.mem_cons_of_mem _ hm) (loops_zero (by omega) m hm), loopFrom_hit h9, if_pos (by omega)]
      simp
    · rw [if_neg h9] at hl
      rw [h i n List.mem_cons_self h9, loopFrom_miss h9, List.nil_append, only_loop (by omega) fun i m hm => h i m (List.mem_cons_of_mem _ hm)]
      rcases loopFrom_range l (i + 1) with q | ⟨q, _⟩
      · rw [q]; rfl
      · rw [if_pos (by omega), if_pos (by omega)]
        obtain ⟨j, hj⟩ : ∃ j, (loopFrom l (i + 1)).toNat - i = j + 1 := ⟨(loopFrom l (i + 1)).toNat - i - 1, by omega⟩
        rw [hj, List.getElem?_cons_succ, show (loopFrom l (i + 1)).toNat - (i + 1) = j by omega]
theorem loopFrom_only : ∀ {l : List Nd} {i k : Nat} (hk : k < l.length), loops l ≤ 1 → l[k].op = 9 → loopFrom l i = ((i + k : Nat) : Int)
  | n :: l, i, k, hk, hl, h9 => by
    rw [loops_cons] at hl
    cases k with
    | zero => exact loopFrom_hit h9
    | succ k =>
      have hk2 : k < l.length := by simpa using hk
      have h9' : l[k].op = 9 := h9
      by_cases hn : n.op = 9
      · rw [if_pos hn] at hl
        exact absurd h9' (loops_zero (by omega) _ (List.getElem_mem hk2))
      · rw [if_neg hn] at hl
        rw [loopFrom_miss hn, loopFrom_only hk2 (by omega) h9']
        omega
theorem loopAt_only {l : List Nd} {k : Nat} (hk : k < l.length) (hl : loops l ≤ 1) (h9 : l[k].op = 9) : loopAt l = (k : Int) := by
  unfold loopAt
  rw [loopFrom_only hk hl h9, Nat.zero_add]
theorem plFrom_fm {α : Type} (f : Pl → List α) : ∀ (l : List Nd) (i : Nat), (plFrom l i).flatMap f = fmFrom (fun i n => f ((i : Int), -1) ++ (List.range n.body.length).flatMap fun (k : Nat) => f ((i : Int), (k : Int))) l i
  | [], _ => rfl
  | n :: l, i => by
    unfold plFrom fmFrom plN
    rw [List.flatMap_append, plFrom_fm f l (i + 1), List.flatMap_cons, List.flatMap_map]
theorem fmFrom_eq {α : Type} {F G : Nat → Nd → List α} : ∀ {l : List Nd} {i : Nat}, (∀ (k : Nat) (hk : k < l.length), F (i + k) l[k] = G (i + k) l[k]) → fmFrom F l i = fmFrom G l i
  | [], _, _ => rfl
  | n :: l, i, h => by
    unfold fmFrom
    have h0 := h 0 (by simp)
    rw [Nat.add_zero] at h0
    have h0 : F i n = G i n := h0
    have h1 : fmFrom F l (i + 1) = fmFrom G l (i + 1) := fmFrom_eq fun k hk => by
      have := h (k + 1) (by simpa using hk)
      rw [show i + (k + 1) = i + 1 + k by omega] at this
      exact this
    rw [h0, h1]
theorem nodeAt_top {l : List Nd} {k : Nat} (hk : k < l.length) : nodeAt l ((k : Int), -1) = some l[k] := by
  unfold nodeAt
  rw [if_pos (by simp)]
  simp [List.getElem?_eq_getElem hk]
theorem nodeAt_in {l : List Nd} {k j : Nat} (hk : k < l.length) (hj : j < l[k].body.length) : nodeAt l ((k : Int), (j : Int)) = some l[k].body[j] := by
  unfold nodeAt
  rw [if_pos (by simp)]
  simp only [Int.toNat_natCast, List.getElem?_eq_getElem hk]
  rw [if_neg (by omega), if_pos (by omega), List.getElem?_eq_getElem hj]
theorem nmFrom_fm (name : Int) (f : Nat → Pl) : ∀ (l : List Nd) (i : Nat), nmFrom name f l i = fmFrom (fun i n => nmN name (f i) n.ins) l i
  | [], _ => rfl
  | n :: l, i => by unfold nmFrom fmFrom; rw [nmFrom_fm name f l (i + 1)]
theorem range_flat {α : Type} (F : Nat → Nd → List α) : ∀ (l : List Nd) (f : Nat → List α) (i : Nat), (∀ (k : Nat) (hk : k < l.length), f k = F (i + k) l[k]) → (List.range l.length).flatMap f = fmFrom F l i
  | [], _, _, _ => rfl
  | n :: l, f, i, h => by
    rw [List.length_cons, List.range_succ_eq_map, List.flatMap_cons, List.flatMap_map]
    unfold fmFrom
    have h0 := h 0 (by simp)
    rw [Nat.add_zero] at h0
    have h0 : f 0 = F i n := h0
    have h1 : (List.range l.length).flatMap (fun k => f (k + 1)) = fmFrom F l (i + 1) := range_flat F l (fun k => f (k + 1)) (i + 1) fun k hk => by
      have := h (k + 1) (by simpa using hk)
      rw [show i + (k + 1) = i + 1 + k by omega] at this
      exact this
    rw [h0]
    exact congrArg _ h1
theorem ouN_fm (name lp : Int) (body : List Nd) : ouN name lp body = fmFrom (fun k n => if n.op = 11 ∧ n.a = name then [((lp, (k : Int)), (0 : Int))] else []) body 0 := by
  unfold ouN
  suffices h : ∀ (b : List Nd) (i : Nat), (b.zipIdx i).filterMap (fun x => if x.1.op = 11 ∧ x.1.a = name then some ((lp, (x.2 : Int)), (0 : Int)) else none) = fmFrom (fun k n => if n.op = 11 ∧ n.a = name then [((lp, (k : Int)), (0 : Int))] else []) b i from h body 0
  intro b
  induction b with
  | nil => intro i; rfl
  | cons n b ih =>
    intro i
    rw [List.zipIdx_cons, List.filterMap_cons]
    unfold fmFrom
    by_cases q : n.op = 11 ∧ n.a = name
    · simp only [if_pos q, ih]; rfl
    · simp only [if_neg q, ih]; rfl
theorem op_top {l : List Nd} {out : Int} (h : gOk (l, out) = true) {k : Nat} (hk : k < l.length) : l[k].op ≠ 11 := by
  intro q
  have := (ok_top h hk).2.2.1
  unfold numOk at this
  rw [if_neg (by omega), if_neg (by omega), if_neg (by omega), if_pos q] at this
  simp at this
theorem body_not9 {l : List Nd} {out : Int} (h : gOk (l, out) = true) {n : Nd} (hn : n ∈ l) (h9 : n.op ≠ 9) : n.body = [] := by
  obtain ⟨k, hk, rfl⟩ := List.getElem_of_mem hn
  rcases (ok_top h hk).2.2.2 with q | q
  · exact absurd q.1 h9
  · exact q.2
theorem ru_top {l : List Nd} {out : Int} (h : gOk (l, out) = true) (i : Int) : ru true i l = usTop l i := by
  unfold ru usTop
  congr 1
  · unfold ruP0 places namedL
    rw [plFrom_fm, nmFrom_fm]
    refine fmFrom_eq fun k hk => ?_
    rw [Nat.zero_add, nodeAt_top hk]
    have : ((List.range l[k].body.length).flatMap fun (j : Nat) => ruQ0 true i ((nodeAt l ((k : Int), (j : Int))).getD default) ((k : Int), (j : Int))) = [] := by
      rw [List.flatMap_eq_nil_iff]
      intro j _
      unfold ruQ0
      rw [if_neg]
      simp
    rw [this, List.append_nil]
    unfold ruQ0
    rw [if_pos (by simp)]
    rfl
  · unfold ruP1 places
    rw [plFrom_fm]
    have e : fmFrom (fun (i' : Nat) (n : Nd) => ruQ1 true i ((nodeAt l ((i' : Int), -1)).getD default) ((i' : Int), -1) ++ (List.range n.body.length).flatMap fun (k : Nat) => ruQ1 true i ((nodeAt l ((i' : Int), (k : Int))).getD default) ((i' : Int), (k : Int))) l 0 =
        fmFrom (fun (i' : Nat) (n : Nd) => ouN i (i' : Int) n.body) l 0 := by
      refine fmFrom_eq fun k hk => ?_
      rw [Nat.zero_add, nodeAt_top hk]
      have e1 : ruQ1 true i ((some l[k]).getD default) ((k : Int), -1) = [] := by
        unfold ruQ1
        rw [if_pos rfl, Option.getD_some, if_neg (fun q => op_top h hk q.1)]
      rw [e1, List.nil_append, ouN_fm]
      refine range_flat (fun (j : Nat) n => if n.op = 11 ∧ n.a = i then [(((k : Int), (j : Int)), (0 : Int))] else []) _ _ 0 fun j hj => ?_
      rw [nodeAt_in hk hj, Nat.zero_add]
      unfold ruQ1
      rw [if_pos rfl, Option.getD_some]
    rw [e, only_loop (gOk_parts h).2.2.2.2.2 fun i' n hn h9 => by rw [body_not9 h hn h9]; rfl]
    unfold loopAt
    by_cases q : 0 ≤ loopFrom l 0
    · rw [if_pos q, if_pos q, Int.toNat_of_nonneg q, Nat.sub_zero]
    · rw [if_neg q, if_neg q]
theorem ru_in {l : List Nd} {out : Int} (h : gOk (l, out) = true) {i j : Nat} (hi : i < l.length) (hj : j < l[i].body.length) : ru false (j : Int) l = namedL (j : Int) (fun k => ((i : Int), (k : Int))) l[i].body := by
  have h9 : l[i].op = 9 := by
    rcases (ok_top h hi).2.2.2 with q | q
    · exact q.1
    · rw [q.2] at hj; simp at hj
  have hl := loopAt_only hi (gOk_parts h).2.2.2.2.2 h9
  have e1 : ruP1 false (j : Int) l (places l) = [] := by
    unfold ruP1
    rw [List.flatMap_eq_nil_iff]
    intro q _
    unfold ruQ1
    rw [if_neg (by simp)]
  unfold ru
  rw [e1, List.append_nil]
  unfold ruP0 places
  rw [plFrom_fm]
  have e : fmFrom (fun (i' : Nat) (n : Nd) => ruQ0 false (j : Int) ((nodeAt l ((i' : Int), -1)).getD default) ((i' : Int), -1) ++ (List.range n.body.length).flatMap fun (k : Nat) => ruQ0 false (j : Int) ((nodeAt l ((i' : Int), (k : Int))).getD default) ((i' : Int), (k : Int))) l 0 =
      fmFrom (fun (i' : Nat) (n : Nd) => namedL (j : Int) (fun k => ((i' : Int), (k : Int))) n.body) l 0 := by
    refine fmFrom_eq fun k hk => ?_
    rw [Nat.zero_add]
    have e1 : ruQ0 false (j : Int) ((nodeAt l ((k : Int), -1)).getD default) ((k : Int), -1) = [] := by
      unfold ruQ0
      rw [if_neg (by simp)]
    rw [e1, List.nil_append]
    unfold namedL
    rw [nmFrom_fm]
    refine range_flat (fun (j' : Nat) n => nmN (j : Int) ((k : Int), (j' : Int)) n.ins) _ _ 0 fun j' hj' => ?_
    rw [nodeAt_in hk hj', Nat.zero_add]
    unfold ruQ0
    have : ¬ ((j' : Int) < 0) := by omega
    rw [if_pos (by simp [this])]
    rfl
  rw [e, only_loop (gOk_parts h).2.2.2.2.2 fun i' n hn h9 => by rw [body_not9 h hn h9]; rfl]
  unfold loopAt at hl
  rw [hl, if_pos (by omega), Nat.sub_zero, Int.toNat_natCast, List.getElem?_eq_getElem hi]
  rfl
end Go.Ox.Gr
namespace Go.Ox.Gr
end Go.Ox.Gr
