/-
  PlGraph, packed: what the claim needs of them.
-/
import Derived.Test.YtcacicgkebcdkaaPe29
import Derived.Test.YtcacicgkebcdkaaPe30
set_option linter.unusedVariables false
namespace Go.Ox.Pl
open Go.Ox.Gr Go.Proofs.Ytcacicgkebcdkaa
def opAt (g : G) (q : Int × Int) : Int := ((gNd g q).getD default).op
def inP (g : G) : Int × Int := ((lpN g).ins.head!, -1)
def lastP (g : G) : Int × Int := (loopAt g.1, (lpN g).body.length - 1)
def arcF (g : G) (p q : Int × Int) : Option (Bool × Int) :=
  if (gUs g p).any (fun u => u.1 == q) = true then some (decide (p.2 < 0) && decide (0 ≤ q.2), 0)
  else if loopAt g.1 < 0 then none
  else if p = inP g ∧ opAt g q = 10 then some (true, 0)
  else if p = lastP g ∧ (opAt g q = 10 ∨ opAt g q = 11) then some (false, 1)
  else if p = lastP g ∧ opAt g q = 9 then some (true, 0)
  else none
def arcsR (g : G) (p : Int × Int) : List Ar := (gPl g).filterMap fun q => (arcF g p q).map fun w => ((p, q), w)
def arcsL (g : G) : List Ar := (gPl g).flatMap (arcsR g)
theorem mem_arcsL {g : G} {x : Ar} : x ∈ arcsL g ↔ x.1.1 ∈ gPl g ∧ x.1.2 ∈ gPl g ∧ arcF g x.1.1 x.1.2 = some x.2 := by
  unfold arcsL arcsR
  rw [List.mem_flatMap]
  constructor
  · rintro ⟨p, hp, hx⟩
    obtain ⟨q, hq, he⟩ := List.mem_filterMap.1 hx
    cases hf : arcF g p q with
    | none => rw [hf] at he; cases he
    | some w =>
      rw [hf] at he
      simp only [Option.map_some, Option.some.injEq] at he
      subst he
      exact ⟨hp, hq, hf⟩
  · rintro ⟨h1, h2, h3⟩
    refine ⟨x.1.1, h1, List.mem_filterMap.2 ⟨x.1.2, h2, ?_⟩⟩
    rw [h3]; rfl
theorem gPl_sorted (g : G) : (gPl g).Pairwise plt := by
  unfold gPl
  split
  · exact plFrom_sorted _ _
  · exact List.Pairwise.nil
theorem filterMap_sorted (g : G) (p : Int × Int) (f : Int × Int → Option (Bool × Int)) : ∀ (l : List (Int × Int)), l.Pairwise plt → (l.filterMap fun q => (f q).map fun w => (((p, q), w) : Ar)).Pairwise (fun a b => ltK a.1 b.1)
  | [], _ => List.Pairwise.nil
  | q :: l, h => by
    rw [List.pairwise_cons] at h
    have ih := filterMap_sorted g p f l h.2
    rw [List.filterMap_cons]
    cases hf : f q with
    | none => simpa [hf] using ih
    | some w =>
      simp only [Option.map_some]
      refine List.pairwise_cons.2 ⟨fun y hy => ?_, ih⟩
      obtain ⟨q', hq', he⟩ := List.mem_filterMap.1 hy
      cases hf' : f q' with
      | none => rw [hf'] at he; cases he
      | some w' =>
        rw [hf'] at he
        simp only [Option.map_some, Option.some.injEq] at he
        subst he
        exact .inr ⟨rfl, h.1 q' hq'⟩
theorem flat_sorted (g : G) (F : Int × Int → List Ar) (hF : ∀ p, (F p).Pairwise (fun a b => ltK a.1 b.1)) (hk : ∀ p, ∀ a ∈ F p, a.1.1 = p) : ∀ (l : List (Int × Int)), l.Pairwise plt → (l.flatMap F).Pairwise (fun a b => ltK a.1 b.1)
  | [], _ => List.Pairwise.nil
  | p :: l, h => by
    rw [List.pairwise_cons] at h
    rw [List.flatMap_cons]
    refine List.pairwise_append.2 ⟨hF p, flat_sorted g F hF hk l h.2, fun a ha b hb => .inl ?_⟩
    obtain ⟨p', hp', hb'⟩ := List.mem_flatMap.1 hb
    rw [hk p a ha, hk p' b hb']
    exact h.1 p' hp'
theorem arcsL_sorted (g : G) : (arcsL g).Pairwise (fun a b => ltK a.1 b.1) := by
  refine flat_sorted g (arcsR g) (fun p => filterMap_sorted g p _ _ (gPl_sorted g)) (fun p a ha => ?_) _ (gPl_sorted g)
  obtain ⟨q, hq, he⟩ := List.mem_filterMap.1 ha
  cases hf : arcF g p q with
  | none => rw [hf] at he; cases he
  | some w =>
    rw [hf] at he
    simp only [Option.map_some, Option.some.injEq] at he
    subst he; rfl
theorem ouN_mem2 {name lp : Int} {x : (Int × Int) × Int} {b : List Nd} (h : x ∈ ouN name lp b) : ∃ (k : Nat) (hk : k < b.length), x.1 = (lp, (k : Int)) ∧ b[k].op = 11 ∧ name ∈ outs b := by
  have hm := ouN_mem h
  unfold ouN at h
  obtain ⟨y, hy, he⟩ := List.mem_filterMap.1 h
  by_cases hn : y.1.op = 11 ∧ y.1.a = name
  · rw [if_pos hn] at he
    injection he with he
    subst he
    obtain ⟨h1, h2⟩ := List.mem_zipIdx' hy
    obtain ⟨_, _, _, h5⟩ := hm
    exact ⟨y.2, h1, rfl, by rw [← h2]; exact hn.1, h5⟩
  · rw [if_neg hn] at he; cases he
theorem users_cls {l : List Nd} {out : Int} (hok : gOk (l, out) = true) {p : Int × Int} (hp : p ∈ plFrom l 0) {x : (Int × Int) × Int} (hx : x ∈ gUs (l, out) p) :
    (∃ (k m : Nat) (hm : m < l.length), p = ((k : Int), -1) ∧ x.1 = ((m : Int), -1) ∧ k < m ∧ (k : Int) ∈ l[m].ins) ∨
    (∃ (k n m : Nat) (hn : n < l.length) (hm : m < l[n].body.length), p = ((k : Int), -1) ∧ loopAt l = (n : Int) ∧ x.1 = ((n : Int), (m : Int)) ∧ k < n ∧ l[n].body[m].op = 11) ∨
    (∃ (k j m : Nat) (hk : k < l.length) (hm : m < l[k].body.length), p = ((k : Int), (j : Int)) ∧ x.1 = ((k : Int), (m : Int)) ∧ j < m ∧ (j : Int) ∈ l[k].body[m].ins) := by
  obtain ⟨k, hk, h1, h2⟩ := plFrom_mem.1 hp
  rw [Nat.zero_add] at h1
  obtain ⟨p1, p2⟩ := p
  dsimp only at h1 h2
  subst h1
  rcases h2 with rfl | ⟨h2, h3⟩
  · rw [gUs_top hok hk] at hx
    unfold usTop namedL at hx
    rcases List.mem_append.1 hx with hx | hx
    · obtain ⟨m, hm, e1, e2⟩ := nmFrom_mem hx
      rw [Nat.zero_add] at e1
      have := (ok_base (ok_top hok hm).1).2.2.2 _ e2
      exact .inl ⟨k, m, hm, rfl, e1, by omega, e2⟩
    · by_cases h0 : 0 ≤ loopAt l
      · rw [if_pos h0] at hx
        obtain ⟨m, hm, e1, e3, e2⟩ := ouN_mem2 hx
        have hr := loopAt_range l
        obtain ⟨n, hn⟩ : ∃ n : Nat, loopAt l = (n : Int) := ⟨(loopAt l).toNat, by omega⟩
        have hlp : n < l.length := by omega
        have e4 : l[(loopAt l).toNat]?.getD default = l[n] := by rw [hn, Int.toNat_natCast, List.getElem?_eq_getElem hlp]; rfl
        have hm' : m < l[n].body.length := by rw [← e4]; exact hm
        have e3' : l[n].body[m].op = 11 := by rw [← e3]; congr 1; simp only [e4]
        rw [e4] at e2
        rcases (ok_top hok hlp).2.2.2 with ⟨_, hb⟩ | ⟨_, hb⟩
        · have := outs_lt hb e2
          exact .inr (.inl ⟨k, n, m, hlp, hm', rfl, hn, by rw [e1, hn], by omega, e3'⟩)
        · rw [hb] at hm'; simp at hm'
      · rw [if_neg h0] at hx; simp at hx
  · obtain ⟨j, rfl⟩ : ∃ j : Nat, p2 = (j : Int) := ⟨p2.toNat, by omega⟩
    have hj : j < l[k].body.length := by omega
    rw [gUs_in hok hk hj] at hx
    unfold namedL at hx
    obtain ⟨m, hm, e1, e2⟩ := nmFrom_mem hx
    rw [Nat.zero_add] at e1
    rcases (ok_top hok hk).2.2.2 with ⟨_, hb⟩ | ⟨_, hb⟩
    · have := (ok_base ((ok_body hb).2.2 m hm).1).2.2.2 _ e2
      exact .inr (.inr ⟨k, j, m, hk, hm, rfl, e1, by omega, e2⟩)
    · rw [hb] at hj; simp at hj
theorem opAt_top {l : List Nd} {out : Int} (hok : gOk (l, out) = true) {k : Nat} (hk : k < l.length) : opAt (l, out) ((k : Int), -1) = l[k].op := by
  unfold opAt gNd
  rw [if_pos hok, nodeAt_top hk]; rfl
theorem opAt_in {l : List Nd} {out : Int} (hok : gOk (l, out) = true) {k j : Nat} (hk : k < l.length) (hj : j < l[k].body.length) : opAt (l, out) ((k : Int), (j : Int)) = l[k].body[j].op := by
  unfold opAt gNd
  rw [if_pos hok, nodeAt_in hk hj]; rfl
theorem top_ops {l : List Nd} {out : Int} (hok : gOk (l, out) = true) {k : Nat} (hk : k < l.length) : l[k].op ≠ 10 ∧ l[k].op ≠ 11 := by
  refine ⟨fun q => ?_, op_top hok hk⟩
  have := (ok_top hok hk).2.2.1
  unfold numOk at this
  rw [if_neg (by omega), if_neg (by omega), if_pos q] at this
  simp at this
theorem body_op {l : List Nd} {out : Int} (hok : gOk (l, out) = true) {k j : Nat} (hk : k < l.length) (hj : j < l[k].body.length) : loopAt l = (k : Int) ∧ l[k].op = 9 ∧ l[k].body[j].op ≠ 9 ∧ (l[k].body[j].op = 10 ∨ l[k].body[j].op = 11 → l[k].body[j].ins = []) := by
  rcases (ok_top hok hk).2.2.2 with ⟨h9, hb⟩ | ⟨_, hb⟩
  · have hbo := (ok_body hb).2.2 j hj
    refine ⟨loopAt_only hk (gOk_parts hok).2.2.2.2.2 h9, h9, fun q => ?_, fun q => ?_⟩
    · have := hbo.2.2.1
      unfold numOk at this
      rw [if_neg (by omega), if_pos q] at this
      simp only [Bool.and_eq_true, decide_eq_true_eq] at this
      omega
    · have := hbo.1
      unfold base at this
      simp only [Bool.and_eq_true, decide_eq_true_eq] at this
      have h1 := this.2.1
      refine List.eq_nil_of_length_eq_zero ?_
      have : arity l[k].body[j].op = 0 := by rcases q with q | q <;> rw [q] <;> rfl
      omega
  · rw [hb] at hj; simp at hj
theorem bgF_mem {lp op : Int} {v : Int × Int} : ∀ {b : List Nd} {i : Nat}, v ∈ bgF lp op b i ↔ ∃ (m : Nat) (hm : m < b.length), v = (lp, ((i + m : Nat) : Int)) ∧ b[m].op = op
  | [], i => by simp [bgF]
  | n :: b, i => by
    have ih := bgF_mem (lp := lp) (op := op) (v := v) (b := b) (i := i + 1)
    unfold bgF
    constructor
    · intro h
      by_cases q : n.op = op
      · rw [if_pos q] at h
        rcases List.mem_cons.1 h with e | e
        · exact ⟨0, by simp, by simpa using e, by simpa using q⟩
        · obtain ⟨m, hm, h1, h2⟩ := ih.1 e
          exact ⟨m + 1, by simpa using hm, by rw [h1]; congr 2; omega, by simpa using h2⟩
      · rw [if_neg q] at h
        obtain ⟨m, hm, h1, h2⟩ := ih.1 h
        exact ⟨m + 1, by simpa using hm, by rw [h1]; congr 2; omega, by simpa using h2⟩
    · rintro ⟨m, hm, h1, h2⟩
      cases m with
      | zero =>
        rw [if_pos (by simpa using h2)]
        exact List.mem_cons.2 (.inl (by simpa using h1))
      | succ m =>
        have : v ∈ bgF lp op b (i + 1) := ih.2 ⟨m, by simpa using hm, by rw [h1]; congr 2; omega, by simpa using h2⟩
        split
        · exact List.mem_cons_of_mem _ this
        · exact this
theorem any_us {g : G} {p q : Int × Int} : (gUs g p).any (fun u => u.1 == q) = true ↔ ∃ u ∈ gUs g p, u.1 = q := by
  rw [List.any_eq_true]
  constructor
  · rintro ⟨u, h1, h2⟩; exact ⟨u, h1, by simpa using h2⟩
  · rintro ⟨u, h1, h2⟩; exact ⟨u, h1, by simpa using h2⟩
theorem us_arc {l : List Nd} {out : Int} (hok : gOk (l, out) = true) {p : Int × Int} (hp : p ∈ plFrom l 0) {u : (Int × Int) × Int} (hu : u ∈ gUs (l, out) p) :
    u.1 ∈ plFrom l 0 ∧ arcU p u = ((p, u.1), (decide (p.2 < 0) && decide (0 ≤ u.1.2), 0)) ∧ arcF (l, out) p u.1 = some (decide (p.2 < 0) && decide (0 ≤ u.1.2), 0) := by
  have h3 : arcF (l, out) p u.1 = some (decide (p.2 < 0) && decide (0 ≤ u.1.2), 0) := by
    unfold arcF
    rw [if_pos (any_us.2 ⟨u, hu, rfl⟩)]
  refine ⟨?_, ?_, h3⟩
  · rcases users_cls hok hp hu with ⟨k, m, hm, rfl, e, hkm, _⟩ | ⟨k, n, m, hn, hm, rfl, hl, e, hkn, h11⟩ | ⟨k, j, m, hk, hm, rfl, e, hjm, _⟩
    · rw [e]; exact plFrom_mem.2 ⟨m, hm, by simp, .inl rfl⟩
    · rw [e]; exact plFrom_mem.2 ⟨n, hn, by simp, .inr ⟨by simp, by simpa using hm⟩⟩
    · rw [e]; exact plFrom_mem.2 ⟨k, hk, by simp, .inr ⟨by simp, by simpa using hm⟩⟩
  · unfold arcU
    rcases users_cls hok hp hu with ⟨k, m, hm, rfl, e, hkm, _⟩ | ⟨k, n, m, hn, hm, rfl, hl, e, hkn, h11⟩ | ⟨k, j, m, hk, hm, rfl, e, hjm, _⟩
    · rw [e]; simp
    · rw [e]
      have : ((m : Int) != -1) = true := by simp
      simp
    · rw [e]
      have h1 : ((j : Int) == -1) = false := by simp
      have h2 : ¬ ((j : Int) < 0) := by omega
      simp only [h1, decide_eq_false h2, Bool.false_and]
theorem lp_of {l : List Nd} {out : Int} (h : loopB (l, out) = true) : ∃ (n : Nat) (hn : n < l.length) (i0 : Int), gOk (l, out) = true ∧ loopAt l = (n : Int) ∧ lpN (l, out) = l[n] ∧ l[n].op = 9 ∧ 1 ≤ l[n].body.length ∧ l[n].body.length ≤ 32 ∧
    (i0 ∈ l[n].ins) ∧ inP (l, out) = (i0, -1) ∧ (lpN (l, out)).ins.head! = i0 ∧ lastP (l, out) = ((n : Int), ((l[n].body.length - 1 : Nat) : Int)) ∧ 0 ≤ i0 ∧ i0 < (n : Int) := by
  obtain ⟨n, hn, i0, ir, h1, h2, h3, h4, h5, h6, h7⟩ := lpN_ok h
  have hok : gOk (l, out) = true := by
    unfold loopB at h
    rw [Bool.and_eq_true] at h
    exact h.1
  have h1 : loopAt l = (n : Int) := h1
  have h4 : l[n].ins = i0 :: ir := h4
  have h3 : lpN (l, out) = l[n] := h3
  have h5 : 1 ≤ l[n].body.length := h5
  have hi := (ok_base (ok_top hok hn).1).2.2.2 i0 (by rw [h4]; simp)
  refine ⟨n, hn, i0, hok, h1, h3, h7, h5, h6, by rw [h4]; simp, ?_, ?_, ?_, by omega, by omega⟩
  · unfold inP; rw [h3, h4]; rfl
  · rw [h3, h4]; rfl
  · unfold lastP
    simp only
    rw [h3, h1]
    congr 1
    omega
theorem mem_roundL {n i0 : Int} {b : List Nd} {x : Ar} : x ∈ roundL n i0 b ↔ x = (((n, (b.length : Int) - 1), (n, -1)), (true, 0)) ∨ (∃ v ∈ bgF n 10 b 0, x = (((i0, -1), v), (true, 0)) ∨ x = (((n, (b.length : Int) - 1), v), (false, 1))) ∨ (∃ v ∈ bgF n 11 b 0, x = (((n, (b.length : Int) - 1), v), (false, 1))) := by
  unfold roundL
  rw [List.mem_cons, List.mem_append, List.mem_flatMap, List.mem_map]
  constructor
  · rintro (h | ⟨v, hv, h⟩ | ⟨v, hv, h⟩)
    · exact .inl h
    · refine .inr (.inl ⟨v, hv, ?_⟩)
      unfold varA at h
      simpa using h
    · exact .inr (.inr ⟨v, hv, h.symm⟩)
  · rintro (h | ⟨v, hv, h⟩ | ⟨v, hv, h⟩)
    · exact .inl h
    · refine .inr (.inl ⟨v, hv, ?_⟩)
      unfold varA
      simpa using h
    · exact .inr (.inr ⟨v, hv, h.symm⟩)
theorem op9 {l : List Nd} {out : Int} (hok : gOk (l, out) = true) {n : Nat} (hn : n < l.length) (h9 : l[n].op = 9) {q : Int × Int} (hq : q ∈ plFrom l 0) : opAt (l, out) q = 9 ↔ q = ((n : Int), -1) := by
  obtain ⟨k, hk, h1, h2⟩ := plFrom_mem.1 hq
  rw [Nat.zero_add] at h1
  obtain ⟨q1, q2⟩ := q
  dsimp only at h1 h2
  subst h1
  have hln := loopAt_only hn (gOk_parts hok).2.2.2.2.2 h9
  constructor
  · intro e
    rcases h2 with rfl | ⟨h2, h3⟩
    · rw [opAt_top hok hk] at e
      have := loopAt_only hk (gOk_parts hok).2.2.2.2.2 e
      rw [← this, hln]
    · obtain ⟨j, rfl⟩ : ∃ j : Nat, q2 = (j : Int) := ⟨q2.toNat, by omega⟩
      have hj : j < l[k].body.length := by omega
      rw [opAt_in hok hk hj] at e
      exact absurd e (body_op hok hk hj).2.2.1
  · intro e
    rw [e, opAt_top hok hn, h9]
theorem op1011 {l : List Nd} {out : Int} (hok : gOk (l, out) = true) {n : Nat} (hn : n < l.length) (hln : loopAt l = (n : Int)) {op : Int} (hop : op = 10 ∨ op = 11) {q : Int × Int} (hq : q ∈ plFrom l 0) : opAt (l, out) q = op ↔ q ∈ bgF (n : Int) op l[n].body 0 := by
  rw [bgF_mem]
  constructor
  · intro e
    obtain ⟨k, hk, h1, h2⟩ := plFrom_mem.1 hq
    rw [Nat.zero_add] at h1
    obtain ⟨q1, q2⟩ := q
    dsimp only at h1 h2
    subst h1
    rcases h2 with rfl | ⟨h2, h3⟩
    · rw [opAt_top hok hk] at e
      have := top_ops hok hk
      rcases hop with h | h <;> omega
    · obtain ⟨j, rfl⟩ : ∃ j : Nat, q2 = (j : Int) := ⟨q2.toNat, by omega⟩
      have hj : j < l[k].body.length := by omega
      have hkn : k = n := by have := (body_op hok hk hj).1; omega
      subst hkn
      rw [opAt_in hok hk hj] at e
      exact ⟨j, hj, by simp, e⟩
  · rintro ⟨m, hm, rfl, e⟩
    rw [Nat.zero_add, opAt_in hok hn hm, e]
theorem body_pl {l : List Nd} {n m : Nat} (hn : n < l.length) (hm : m < l[n].body.length) : ((n : Int), (m : Int)) ∈ plFrom l 0 := plFrom_mem.2 ⟨n, hn, by simp, .inr ⟨by simp, by simpa using hm⟩⟩
theorem no_user {l : List Nd} {out : Int} (hok : gOk (l, out) = true) {p q : Int × Int} (hp : p ∈ plFrom l 0) {n m : Nat} (hn : n < l.length) (hm : m < l[n].body.length) (hq : q = ((n : Int), (m : Int))) (h : l[n].body[m].op = 10 ∨ (l[n].body[m].op = 11 ∧ 0 ≤ p.2)) : ¬ (gUs (l, out) p).any (fun u => u.1 == q) = true := by
  rw [any_us]
  rintro ⟨u, hu, he⟩
  rw [hq] at he
  rcases users_cls hok hp hu with ⟨k, m', hm', rfl, e, hkm, _⟩ | ⟨k, n', m', hn', hm', rfl, hl, e, hkn, h11⟩ | ⟨k, j, m', hk, hm', rfl, e, hjm, hin⟩
  · rw [e] at he; injection he with a b; omega
  · rw [e] at he
    injection he with a b
    have a : n' = n := by omega
    have b : m' = m := by omega
    subst a b
    rcases h with h | ⟨h, h2⟩
    · omega
    · simp at h2
  · rw [e] at he
    injection he with a b
    have a : k = n := by omega
    have b : m' = m := by omega
    subst a b
    have := (body_op hok hk hm').2.2.2 (by rcases h with h | ⟨h, _⟩ <;> simp [h])
    rw [this] at hin; simp at hin
theorem lp_pl {l : List Nd} {n : Nat} (hn : n < l.length) : ((n : Int), (-1 : Int)) ∈ plFrom l 0 := plFrom_mem.2 ⟨n, hn, by simp, .inl rfl⟩
theorem no_user_lp {l : List Nd} {out : Int} (hok : gOk (l, out) = true) {p : Int × Int} (hp : p ∈ plFrom l 0) {n : Nat} (hp2 : 0 ≤ p.2) : ¬ (gUs (l, out) p).any (fun u => u.1 == ((n : Int), (-1 : Int))) = true := by
  rw [any_us]
  rintro ⟨u, hu, he⟩
  rcases users_cls hok hp hu with ⟨k, m', hm', rfl, e, hkm, _⟩ | ⟨k, n', m', hn', hm', rfl, hl, e, hkn, h11⟩ | ⟨k, j, m', hk, hm', rfl, e, hjm, hin⟩
  · simp at hp2
  · rw [e] at he; injection he with a b; omega
  · rw [e] at he; injection he with a b; omega
theorem mem_arcs0 (g : G) (x : Ar) : x ∈ Arcs0 g ↔ x ∈ arcsL g := by
  obtain ⟨l, out⟩ := g
  rw [mem_arcsL]
  cases hok : gOk (l, out) with
  | false =>
    have h1 : gPl (l, out) = [] := by unfold gPl; rw [if_neg (by rw [hok]; simp)]
    have h2 : rndL (l, out) = [] := by unfold rndL loopB; rw [hok]; rfl
    unfold Arcs0
    rw [h1, h2]
    simp
  | true =>
    have hpl : gPl (l, out) = plFrom l 0 := by unfold gPl; rw [if_pos hok]; rfl
    unfold Arcs0
    rw [List.mem_append, hpl, List.mem_flatMap]
    obtain ⟨⟨p, q⟩, w⟩ := x
    simp only
    constructor
    · rintro (⟨p', hp', hx⟩ | hx)
      · unfold arcsP at hx
        obtain ⟨u, hu, he⟩ := List.mem_map.1 hx
        obtain ⟨h1, h2, h3⟩ := us_arc hok hp' hu
        rw [h2] at he
        injection he with a b
        injection a with a c
        subst a b c
        exact ⟨hp', h1, h3⟩
      · unfold rndL at hx
        by_cases hB : loopB (l, out) = true
        · rw [if_pos hB] at hx
          obtain ⟨n, hn, i0, -, hln, hN, h9, hb1, hb2, hi, hin, hhd, hla, hi0, hin2⟩ := lp_of hB
          rw [hN] at hhd
          rw [hN, hhd, hln] at hx
          have hlm : l[n].body.length - 1 < l[n].body.length := by omega
          have hlast : ((n : Int), (l[n].body.length : Int) - 1) = lastP (l, out) := by rw [hla]; congr 1; omega
          have hlpl : lastP (l, out) ∈ plFrom l 0 := by rw [hla]; exact body_pl hn hlm
          have hl2 : 0 ≤ (lastP (l, out)).2 := by rw [hla]; simp
          have hpi : ((i0, -1) : Int × Int) ∈ plFrom l 0 := by
            obtain ⟨k, rfl⟩ : ∃ k : Nat, i0 = (k : Int) := ⟨i0.toNat, by omega⟩
            exact lp_pl (by omega)
          have hne : lastP (l, out) ≠ inP (l, out) := by rw [hla, hin]; intro e; injection e with a b; omega
          have hl0 : ¬ loopAt l < 0 := by omega
          rw [mem_roundL, hlast] at hx
          rcases hx with hx | ⟨v, hv, hx | hx⟩ | ⟨v, hv, hx⟩
          · injection hx with a b
            injection a with a c
            subst a b c
            refine ⟨hlpl, lp_pl hn, ?_⟩
            have e9 := (op9 hok hn h9 (lp_pl hn)).2 rfl
            unfold arcF
            rw [if_neg (no_user_lp hok hlpl hl2), if_neg hl0, if_neg (fun e => hne e.1), if_neg (by rw [e9]; omega), if_pos ⟨rfl, e9⟩]
          · injection hx with a b
            injection a with a c
            subst a b c
            have hvm := bgF_mem.1 hv
            obtain ⟨m, hm, e, h10⟩ := hvm
            rw [Nat.zero_add] at e
            have hvp : q ∈ plFrom l 0 := by rw [e]; exact body_pl hn hm
            refine ⟨hpi, hvp, ?_⟩
            unfold arcF
            rw [if_neg (no_user hok hpi hn hm e (.inl h10)), if_neg hl0, if_pos ⟨hin.symm, (op1011 hok hn hln (.inl rfl) hvp).2 hv⟩]
          · injection hx with a b
            injection a with a c
            subst a b c
            have hvm := bgF_mem.1 hv
            obtain ⟨m, hm, e, h10⟩ := hvm
            rw [Nat.zero_add] at e
            have hvp : q ∈ plFrom l 0 := by rw [e]; exact body_pl hn hm
            refine ⟨hlpl, hvp, ?_⟩
            unfold arcF
            rw [if_neg (no_user hok hlpl hn hm e (.inl h10)), if_neg hl0, if_neg (fun e => hne e.1), if_pos ⟨rfl, .inl ((op1011 hok hn hln (.inl rfl) hvp).2 hv)⟩]
          · injection hx with a b
            injection a with a c
            subst a b c
            have hvm := bgF_mem.1 hv
            obtain ⟨m, hm, e, h10⟩ := hvm
            rw [Nat.zero_add] at e
            have hvp : q ∈ plFrom l 0 := by rw [e]; exact body_pl hn hm
            refine ⟨hlpl, hvp, ?_⟩
            unfold arcF
            rw [if_neg (no_user hok hlpl hn hm e (.inr ⟨h10, hl2⟩)), if_neg hl0, if_neg (fun e => hne e.1), if_pos ⟨rfl, .inr ((op1011 hok hn hln (.inr rfl) hvp).2 hv)⟩]
        · rw [if_neg hB] at hx; simp at hx
    · rintro ⟨hp, hq, hf⟩
      unfold arcF at hf
      by_cases hu : (gUs (l, out) p).any (fun u => u.1 == q) = true
      · rw [if_pos hu] at hf
        injection hf with hf
        obtain ⟨u, hu2, rfl⟩ := any_us.1 hu
        obtain ⟨h1, h2, h3⟩ := us_arc hok hp hu2
        refine .inl ⟨p, hp, ?_⟩
        unfold arcsP
        exact List.mem_map.2 ⟨u, hu2, by rw [h2, hf]⟩
      · rw [if_neg hu] at hf
        by_cases hl0 : loopAt l < 0
        · rw [if_pos hl0] at hf; cases hf
        · rw [if_neg hl0] at hf
          have hB : loopB (l, out) = true := by unfold loopB; rw [hok]; simp; omega
          refine .inr ?_
          unfold rndL
          rw [if_pos hB]
          obtain ⟨n, hn, i0, -, hln, hN, h9, hb1, hb2, hi, hin, hhd, hla, hi0, hin2⟩ := lp_of hB
          rw [hN] at hhd
          rw [hN, hhd, hln]
          have hlast : ((n : Int), (l[n].body.length : Int) - 1) = lastP (l, out) := by rw [hla]; congr 1; omega
          rw [mem_roundL, hlast]
          by_cases c1 : p = inP (l, out) ∧ opAt (l, out) q = 10
          · rw [if_pos c1] at hf
            injection hf with hf
            exact .inr (.inl ⟨q, (op1011 hok hn hln (.inl rfl) hq).1 c1.2, .inl (by rw [c1.1, hin, hf])⟩)
          · rw [if_neg c1] at hf
            by_cases c2 : p = lastP (l, out) ∧ (opAt (l, out) q = 10 ∨ opAt (l, out) q = 11)
            · rw [if_pos c2] at hf
              injection hf with hf
              rcases c2.2 with o | o
              · exact .inr (.inl ⟨q, (op1011 hok hn hln (.inl rfl) hq).1 o, .inr (by rw [c2.1, hf])⟩)
              · exact .inr (.inr ⟨q, (op1011 hok hn hln (.inr rfl) hq).1 o, by rw [c2.1, hf]⟩)
            · rw [if_neg c2] at hf
              by_cases c3 : p = lastP (l, out) ∧ opAt (l, out) q = 9
              · rw [if_pos c3] at hf
                injection hf with hf
                exact .inl (by rw [c3.1, (op9 hok hn h9 hq).1 c3.2, hf])
              · rw [if_neg c3] at hf; cases hf
theorem arcs_uniq {g : G} : ∀ a ∈ Arcs0 g, ∀ b ∈ Arcs0 g, a.1 = b.1 → a = b := by
  intro a ha b hb e
  have h1 := (mem_arcsL.1 ((mem_arcs0 g a).1 ha)).2.2
  have h2 := (mem_arcsL.1 ((mem_arcs0 g b).1 hb)).2.2
  rw [e, h2] at h1
  injection h1 with h1
  exact Prod.ext e h1.symm
theorem dd_arcs {g : G} {s : List Ar} (hp : s.Perm (Arcs0 g)) (hs : Srtd s) : dd s = arcsL g := dd_is hp hs arcs_uniq (arcsL_sorted g) (mem_arcs0 g)
theorem arcs0_len {g : G} (h : (gPl g).length ≤ 20) : (Arcs0 g).length ≤ 5000 := by
  have h1 : ((gPl g).flatMap (arcsP g)).length ≤ 2000 := by
    have e : ((gPl g).flatMap (arcsP g)).length = tot (fun p => (gUs g p).length) (gPl g) := by
      rw [List.length_flatMap]
      unfold tot
      congr 1
      refine List.map_congr_left fun p _ => ?_
      unfold arcsP
      simp
    rw [e, used_want]
    have := tot_le (fun p => wantN ((gNd g p).getD default)) 100 (gPl g) (fun p _ => want_le)
    omega
  have h2 : (rndL g).length ≤ 200 := by
    unfold rndL
    by_cases hB : loopB g = true
    · rw [if_pos hB]
      obtain ⟨n, hn, i0, ir, e1, e2, e3, e4, e5, e6, e7⟩ := lpN_ok hB
      rw [e3]
      unfold roundL
      have a1 := bgF_len (loopAt g.1) 10 (g.1[n]).body 0
      have a2 := bgF_len (loopAt g.1) 11 (g.1[n]).body 0
      rw [List.length_cons, List.length_append, flat_len, List.length_map]
      omega
    · rw [if_neg hB]; simp
  unfold Arcs0
  rw [List.length_append]
  omega
theorem arcsL_len {g : G} (h : (gPl g).length ≤ 20) : (arcsL g).length ≤ 400 := by
  have : ∀ l : List (Int × Int), (l.flatMap (arcsR g)).length ≤ l.length * 20 := by
    intro l
    induction l with
    | nil => simp
    | cons p l ih =>
      have : (arcsR g p).length ≤ 20 := Nat.le_trans (List.length_filterMap_le _ _) h
      rw [List.flatMap_cons, List.length_append, List.length_cons]
      omega
  have := this (gPl g)
  unfold arcsL
  omega
end Go.Ox.Pl
namespace Go.Proofs.Ytcacicgkebcdkaa
open Go.RowKit Go.Ox Go.Ox.Gr
theorem arcs_own (d : Nat) (v : Value) (g : G) (w : World) (hv : NodesR d w v g.1) (hl : (gPl g).length ≤ 20) :
    Calls Try.prog 9 #[gAg v g.2] w fun e w' => ∃ u, e = .returned u ∧ OE 39 w.heap.size w' u (Pl.arcsL g) ∧ Ext w w' := by
  refine (arcs_any d v g w hv (Pl.arcs0_len hl)).mono ?_
  rintro e w' ⟨u, s, rfl, hp, hs, ho, he⟩
  exact ⟨u, rfl, by rw [← Pl.dd_arcs hp hs]; exact ho, he⟩
end Go.Proofs.Ytcacicgkebcdkaa
