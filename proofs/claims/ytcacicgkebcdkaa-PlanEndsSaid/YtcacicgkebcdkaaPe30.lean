/-
  GrOrd, packed: what the claim needs of them.
-/
import Derived.Test.YtcacicgkebcdkaaPe29
set_option linter.unusedVariables false
namespace Go.Ox.Gr
def tot {α : Type} (f : α → Nat) (l : List α) : Nat := (l.map f).sum
theorem tot_app {α : Type} (f : α → Nat) (l r : List α) : tot f (l ++ r) = tot f l + tot f r := by unfold tot; rw [List.map_append, List.sum_append]
theorem tot_le {α : Type} (f : α → Nat) (c : Nat) : ∀ (l : List α), (∀ x ∈ l, f x ≤ c) → tot f l ≤ l.length * c
  | [], _ => by simp [tot]
  | x :: l, h => by
    have h1 := tot_le f c l fun y hy => h y (List.mem_cons_of_mem _ hy)
    have h2 := h x List.mem_cons_self
    unfold tot at *
    rw [List.map_cons, List.sum_cons, List.length_cons, Nat.add_mul]
    omega
theorem tot_congr {α : Type} {f g : α → Nat} : ∀ {l : List α}, (∀ x ∈ l, f x = g x) → tot f l = tot g l
  | [], _ => rfl
  | x :: l, h => by
    have h1 := tot_congr fun y hy => h y (List.mem_cons_of_mem _ hy)
    unfold tot at *
    rw [List.map_cons, List.map_cons, List.sum_cons, List.sum_cons, h x List.mem_cons_self, h1]
theorem tot_add {α : Type} (f g : α → Nat) : ∀ (l : List α), tot (fun x => f x + g x) l = tot f l + tot g l
  | [] => rfl
  | x :: l => by
    have h1 := tot_add f g l
    unfold tot at *
    rw [List.map_cons, List.map_cons, List.map_cons, List.sum_cons, List.sum_cons, List.sum_cons, h1]
    omega
def sm (N : Nat) (g : Nat → Nat) : Nat := tot g (List.range N)
theorem sm_0 (g : Nat → Nat) : sm 0 g = 0 := rfl
theorem sm_s (N : Nat) (g : Nat → Nat) : sm (N + 1) g = sm N g + g N := by
  unfold sm
  rw [List.range_succ, tot_app]
  simp [tot]
theorem sm_f (N : Nat) (g : Nat → Nat) : sm (N + 1) g = g 0 + sm N (fun k => g (k + 1)) := by
  unfold sm tot
  rw [List.range_succ_eq_map, List.map_cons, List.sum_cons, List.map_map]
  rfl
theorem sm_add (N : Nat) (f g : Nat → Nat) : sm N (fun k => f k + g k) = sm N f + sm N g := tot_add f g _
theorem sm_congr {N : Nat} {f g : Nat → Nat} (h : ∀ k, k < N → f k = g k) : sm N f = sm N g := tot_congr fun k hk => h k (List.mem_range.1 hk)
theorem sm_one (x : Int) : ∀ (N : Nat), 0 ≤ x → sm N (fun k => if x = (k : Int) then 1 else 0) = if x < (N : Int) then 1 else 0
  | 0, h => by rw [sm_0, if_neg (by omega)]
  | N + 1, h => by
    rw [sm_s, sm_one x N h]
    by_cases h1 : x < (N : Int)
    · rw [if_pos h1, if_neg (by omega), if_pos (by omega)]
    · rw [if_neg h1]
      by_cases h2 : x = (N : Int)
      · rw [if_pos h2, if_pos (by omega)]
      · rw [if_neg h2, if_neg (by omega)]
def cnt (i : Int) (l : List Int) : Nat := tot (fun x => if x = i then 1 else 0) l
theorem cnt_app (i : Int) (l r : List Int) : cnt i (l ++ r) = cnt i l + cnt i r := tot_app _ _ _
theorem cnt_cons (i x : Int) (l : List Int) : cnt i (x :: l) = (if x = i then 1 else 0) + cnt i l := by unfold cnt tot; rw [List.map_cons, List.sum_cons]
theorem sum_cnt (N : Nat) : ∀ (l : List Int), (∀ x ∈ l, 0 ≤ x ∧ x < (N : Int)) → sm N (fun k => cnt (k : Int) l) = l.length
  | [], _ => by
    have : sm N (fun k => cnt (k : Int) []) = sm N fun _ => 0 := rfl
    rw [this]
    unfold sm
    have := tot_le (fun _ : Nat => 0) 0 (List.range N) (fun _ _ => Nat.le_refl _)
    simp at this ⊢
    exact this
  | x :: l, h => by
    have hx := h x List.mem_cons_self
    have e : sm N (fun k => cnt (k : Int) (x :: l)) = sm N (fun k => if x = (k : Int) then 1 else 0) + sm N fun k => cnt (k : Int) l := by
      rw [← sm_add]
      exact sm_congr fun k _ => cnt_cons _ _ _
    rw [e, sm_one x N hx.1, if_pos hx.2, sum_cnt N l fun y hy => h y (List.mem_cons_of_mem _ hy), List.length_cons, Nat.add_comm]
theorem nmN_cnt (name : Int) (p : Int × Int) : ∀ (ins : List Int) (i : Nat), ((ins.zipIdx i).filterMap fun x => if x.1 = name then some (p, (x.2 : Int)) else none).length = cnt name ins
  | [], _ => rfl
  | x :: ins, i => by
    rw [List.zipIdx_cons, List.filterMap_cons, cnt_cons]
    by_cases h : x = name
    · simp only [if_pos h, List.length_cons, nmN_cnt name p ins (i + 1)]; omega
    · simp only [if_neg h, nmN_cnt name p ins (i + 1)]; omega
theorem nmFrom_cnt (name : Int) (f : Nat → Int × Int) : ∀ (l : List Nd) (i : Nat), (nmFrom name f l i).length = cnt name (l.flatMap Nd.ins)
  | [], _ => rfl
  | n :: l, i => by
    unfold nmFrom
    rw [List.length_append, List.flatMap_cons, cnt_app, nmFrom_cnt name f l (i + 1)]
    congr 1
    exact nmN_cnt name (f i) n.ins 0
def outs (b : List Nd) : List Int := (b.filter fun n => decide (n.op = 11)).map Nd.a
theorem outs_y {n : Nd} (b : List Nd) (h : n.op = 11) : outs (n :: b) = n.a :: outs b := by
  unfold outs
  rw [List.filter_cons, if_pos (by simpa using h)]
  rfl
theorem outs_n {n : Nd} (b : List Nd) (h : n.op ≠ 11) : outs (n :: b) = outs b := by
  unfold outs
  rw [List.filter_cons, if_neg (by simpa using h)]
theorem ouN_cnt (name lp : Int) : ∀ (b : List Nd) (i : Nat), ((b.zipIdx i).filterMap fun x => if x.1.op = 11 ∧ x.1.a = name then some ((lp, (x.2 : Int)), (0 : Int)) else none).length = cnt name (outs b)
  | [], _ => rfl
  | n :: b, i => by
    have h := ouN_cnt name lp b (i + 1)
    rw [List.zipIdx_cons, List.filterMap_cons]
    by_cases h1 : n.op = 11
    · rw [outs_y b h1, cnt_cons]
      by_cases h2 : n.a = name
      · simp only [if_pos (And.intro h1 h2), if_pos h2, List.length_cons, h]; omega
      · simp only [if_neg (fun q : n.op = 11 ∧ n.a = name => h2 q.2), if_neg h2, h]; omega
    · rw [outs_n b h1]
      simp only [if_neg (fun q : n.op = 11 ∧ n.a = name => h1 q.1), h]
def named (l : List Nd) : List Int := l.flatMap Nd.ins ++ fmFrom (fun _ n => outs n.body) l 0
theorem outs_body {l : List Nd} {out : Int} (h : gOk (l, out) = true) : fmFrom (fun _ n => outs n.body) l 0 = if 0 ≤ loopAt l then outs (l[(loopAt l).toNat]?.getD default).body else [] := by
  rw [only_loop (gOk_parts h).2.2.2.2.2 fun i n hn h9 => by rw [body_not9 h hn h9]; rfl]
  unfold loopAt
  rw [Nat.sub_zero]
theorem usTop_cnt {l : List Nd} {out : Int} (h : gOk (l, out) = true) (i : Int) : (usTop l i).length = cnt i (named l) := by
  unfold usTop named namedL
  rw [List.length_append, cnt_app, nmFrom_cnt, outs_body h]
  congr 1
  by_cases h0 : 0 ≤ loopAt l
  · rw [if_pos h0, if_pos h0]
    exact ouN_cnt i (loopAt l) _ 0
  · rw [if_neg h0, if_neg h0]; rfl
theorem tot_pl (f : Pl → Nat) (g : Nat → Nat) (hh : Nd → Nat → Nat) : ∀ (l : List Nd) (i : Nat), (∀ (k : Nat) (hk : k < l.length), f (((i + k : Nat) : Int), -1) = g (i + k) ∧ ∀ (j : Nat), j < l[k].body.length → f (((i + k : Nat) : Int), (j : Int)) = hh l[k] j) →
    tot f (plFrom l i) = sm l.length (fun k => g (i + k)) + tot (fun n => sm n.body.length (hh n)) l
  | [], _, _ => rfl
  | n :: l, i, h => by
    have h0 := h 0 (by simp)
    rw [Nat.add_zero] at h0
    have h0a : f ((i : Int), -1) = g i := h0.1
    have h0b : ∀ (j : Nat), j < n.body.length → f ((i : Int), (j : Int)) = hh n j := h0.2
    have ih := tot_pl f g hh l (i + 1) fun k hk => by
      have := h (k + 1) (by simpa using hk)
      rw [show i + (k + 1) = i + 1 + k by omega] at this
      exact this
    have e1 : tot f (plN i n.body.length) = g i + sm n.body.length (hh n) := by
      have e2 : tot f (plN i n.body.length) = f ((i : Int), -1) + sm n.body.length (fun (k : Nat) => f ((i : Int), (k : Int))) := by
        unfold plN sm tot
        rw [List.map_cons, List.sum_cons, List.map_map]
        rfl
      rw [e2, h0a, sm_congr h0b]
    have e3 : tot (fun n => sm n.body.length (hh n)) (n :: l) = sm n.body.length (hh n) + tot (fun n => sm n.body.length (hh n)) l := by unfold tot; rw [List.map_cons, List.sum_cons]
    have e4 : sm (l.length + 1) (fun k => g (i + k)) = g i + sm l.length (fun k => g (i + 1 + k)) := by
      rw [sm_f]
      congr 1
      exact sm_congr fun k _ => by rw [show i + (k + 1) = i + 1 + k by omega]
    unfold plFrom
    rw [tot_app, e1, ih, e3, List.length_cons, e4]
    omega
theorem sm_list (F : Nd → Nat) : ∀ (b : List Nd), sm b.length (fun j => F (b[j]?.getD default)) = tot F b
  | [] => rfl
  | n :: b => by
    have ih := sm_list F b
    rw [List.length_cons, sm_f]
    unfold tot at *
    rw [List.map_cons, List.sum_cons, ← ih]
    rfl
theorem tot_len {α : Type} (F : Nd → List α) : ∀ (l : List Nd), (l.flatMap F).length = tot (fun n => (F n).length) l
  | [] => rfl
  | n :: l => by
    have ih := tot_len F l
    unfold tot at *
    rw [List.flatMap_cons, List.length_append, ih, List.map_cons, List.sum_cons]
theorem fm_len {α : Type} (F : Nd → List α) : ∀ (l : List Nd) (i : Nat), (fmFrom (fun _ n => F n) l i).length = tot (fun n => (F n).length) l
  | [], _ => rfl
  | n :: l, i => by
    have ih := fm_len F l (i + 1)
    show (F n ++ fmFrom (fun _ n => F n) l (i + 1)).length = _
    unfold tot at *
    rw [List.length_append, ih, List.map_cons, List.sum_cons]
def wantN (n : Nd) : Nat := n.ins.length + (if n.op = 11 then 1 else 0)
theorem want_body : ∀ (b : List Nd), tot wantN b = (b.flatMap Nd.ins).length + (outs b).length
  | [] => rfl
  | n :: b => by
    have ih := want_body b
    have e : tot wantN (n :: b) = wantN n + tot wantN b := by unfold tot; rw [List.map_cons, List.sum_cons]
    rw [e, ih, List.flatMap_cons, List.length_append]
    unfold wantN
    by_cases h : n.op = 11
    · rw [if_pos h, outs_y b h, List.length_cons]; omega
    · rw [if_neg h, outs_n b h]; omega
theorem gUs_top {l : List Nd} {out : Int} (h : gOk (l, out) = true) {k : Nat} (hk : k < l.length) : gUs (l, out) ((k : Int), -1) = usTop l (k : Int) := by
  have e : gNd (l, out) ((k : Int), -1) = some l[k] := by unfold gNd; rw [if_pos h]; exact nodeAt_top hk
  rw [← ru_top h]
  unfold gUs
  rw [e]
  rfl
theorem gUs_in {l : List Nd} {out : Int} (h : gOk (l, out) = true) {k j : Nat} (hk : k < l.length) (hj : j < l[k].body.length) : gUs (l, out) ((k : Int), (j : Int)) = namedL (j : Int) (fun m => ((k : Int), (m : Int))) l[k].body := by
  have e : gNd (l, out) ((k : Int), (j : Int)) = some l[k].body[j] := by unfold gNd; rw [if_pos h]; exact nodeAt_in hk hj
  rw [← ru_in h hk hj]
  unfold gUs
  rw [e]
  have hn : ¬ ((j : Int) < 0) := by omega
  exact (if_pos rfl).trans (if_neg hn)
theorem mem_flat {l : List Nd} {x : Int} (h : x ∈ l.flatMap Nd.ins) : ∃ (k : Nat) (hk : k < l.length), x ∈ l[k].ins := by
  obtain ⟨n, hn, hx⟩ := List.mem_flatMap.1 h
  obtain ⟨k, hk, rfl⟩ := List.getElem_of_mem hn
  exact ⟨k, hk, hx⟩
theorem outs_lt {b : List Nd} {k : Nat} (h : bodyOk b k = true) {x : Int} (hx : x ∈ outs b) : 0 ≤ x ∧ x < (k : Int) := by
  unfold outs at hx
  obtain ⟨n, hn, rfl⟩ := List.mem_map.1 hx
  obtain ⟨hn, ho⟩ := List.mem_filter.1 hn
  obtain ⟨j, hj, rfl⟩ := List.getElem_of_mem hn
  have h11 : b[j].op = 11 := by simpa using ho
  have := ((ok_body h).2.2 j hj).2.2.1
  unfold numOk at this
  rw [if_neg (by omega), if_neg (by omega), if_neg (by omega), if_pos h11] at this
  simp only [Bool.and_eq_true, decide_eq_true_eq] at this
  exact this.2
theorem used_want {g : G} : tot (fun p => (gUs g p).length) (gPl g) = tot (fun p => wantN ((gNd g p).getD default)) (gPl g) := by
  obtain ⟨l, out⟩ := g
  cases hok : gOk (l, out) with
  | false =>
    have : gPl (l, out) = [] := by unfold gPl; rw [if_neg (by rw [hok]; simp)]
    rw [this]; rfl
  | true =>
    have hpl : gPl (l, out) = plFrom l 0 := by unfold gPl; rw [if_pos hok]; rfl
    have hnd : ∀ p, gNd (l, out) p = nodeAt l p := fun p => by unfold gNd; rw [if_pos hok]
    rw [hpl]
    have e1 : tot (fun p => (gUs (l, out) p).length) (plFrom l 0) = sm l.length (fun k => cnt ((0 + k : Nat) : Int) (named l)) + tot (fun n => sm n.body.length (fun j => cnt (j : Int) (n.body.flatMap Nd.ins))) l := by
      refine tot_pl _ (fun k => cnt (k : Int) (named l)) (fun n j => cnt (j : Int) (n.body.flatMap Nd.ins)) l 0 fun k hk => ⟨?_, fun j hj => ?_⟩
      · rw [Nat.zero_add]
        show (gUs (l, out) ((k : Int), -1)).length = _
        rw [gUs_top hok hk, usTop_cnt hok]
      · rw [Nat.zero_add]
        show (gUs (l, out) ((k : Int), (j : Int))).length = _
        rw [gUs_in hok hk hj]
        exact nmFrom_cnt _ _ _ 0
    have e2 : tot (fun p => wantN ((gNd (l, out) p).getD default)) (plFrom l 0) = sm l.length (fun k => wantN (l[0 + k]?.getD default)) + tot (fun n => sm n.body.length (fun j => wantN (n.body[j]?.getD default))) l := by
      refine tot_pl _ (fun k => wantN (l[k]?.getD default)) (fun n j => wantN (n.body[j]?.getD default)) l 0 fun k hk => ⟨?_, fun j hj => ?_⟩
      · rw [Nat.zero_add, hnd, nodeAt_top hk, List.getElem?_eq_getElem hk]
      · rw [Nat.zero_add, hnd, nodeAt_in hk hj, List.getElem?_eq_getElem hj]
    have e3 : sm l.length (fun k => cnt ((0 + k : Nat) : Int) (named l)) = (named l).length := by
      rw [← sum_cnt l.length (named l)]
      · exact sm_congr fun k _ => by rw [Nat.zero_add]
      · intro x hx
        unfold named at hx
        rcases List.mem_append.1 hx with hx | hx
        · obtain ⟨k, hk, hx⟩ := mem_flat hx
          have := (ok_base (ok_top hok hk).1).2.2.2 x hx
          omega
        · rw [outs_body hok] at hx
          by_cases h0 : 0 ≤ loopAt l
          · rw [if_pos h0] at hx
            have hr := loopAt_range l
            have hk : (loopAt l).toNat < l.length := by omega
            rw [List.getElem?_eq_getElem hk, Option.getD_some] at hx
            rcases (ok_top hok hk).2.2.2 with ⟨_, hb⟩ | ⟨_, hb⟩
            · have := outs_lt hb hx
              omega
            · rw [hb] at hx; simp [outs] at hx
          · rw [if_neg h0] at hx; simp at hx
    have e4 : sm l.length (fun k => wantN (l[0 + k]?.getD default)) = tot wantN l := by
      rw [← sm_list wantN l]
      exact sm_congr fun k _ => by rw [Nat.zero_add]
    have e5 : tot (fun n => sm n.body.length (fun j => wantN (n.body[j]?.getD default))) l = tot (fun n => (n.body.flatMap Nd.ins).length) l + tot (fun n => (outs n.body).length) l := by
      rw [← tot_add]
      exact tot_congr fun n _ => by rw [sm_list wantN, want_body]
    have e6 : tot (fun n => sm n.body.length (fun j => cnt (j : Int) (n.body.flatMap Nd.ins))) l = tot (fun n => (n.body.flatMap Nd.ins).length) l := by
      refine tot_congr fun n hn => sum_cnt _ _ fun x hx => ?_
      obtain ⟨k, hk, rfl⟩ := List.getElem_of_mem hn
      rcases (ok_top hok hk).2.2.2 with ⟨_, hb⟩ | ⟨_, hb⟩
      · obtain ⟨j, hj, hx⟩ := mem_flat hx
        have := (ok_base ((ok_body hb).2.2 j hj).1).2.2.2 x hx
        omega
      · rw [hb] at hx; simp at hx
    have e7 : tot wantN l = (l.flatMap Nd.ins).length := by
      rw [tot_len]
      refine tot_congr fun n hn => ?_
      obtain ⟨k, hk, rfl⟩ := List.getElem_of_mem hn
      unfold wantN
      rw [if_neg (op_top hok hk), Nat.add_zero]
    have e8 : (named l).length = (l.flatMap Nd.ins).length + tot (fun n => (outs n.body).length) l := by
      unfold named
      rw [List.length_append, fm_len]
    rw [e1, e2, e3, e4, e5, e6, e7, e8]
    omega
def plt (p q : Pl) : Prop := p.1 < q.1 ∨ (p.1 = q.1 ∧ p.2 < q.2)
theorem plN_sorted (i n : Nat) : (plN i n).Pairwise plt := by
  unfold plN
  refine List.pairwise_cons.2 ⟨fun q hq => ?_, ?_⟩
  · obtain ⟨k, hk, rfl⟩ := List.mem_map.1 hq
    exact .inr ⟨rfl, by show (-1 : Int) < (k : Int); omega⟩
  · rw [List.pairwise_map]
    exact List.pairwise_lt_range.imp fun h => .inr ⟨rfl, by show ((_ : Nat) : Int) < ((_ : Nat) : Int); omega⟩
theorem plFrom_sorted : ∀ (l : List Nd) (i : Nat), (plFrom l i).Pairwise plt
  | [], _ => List.Pairwise.nil
  | n :: l, i => by
    unfold plFrom
    refine List.pairwise_append.2 ⟨plN_sorted _ _, plFrom_sorted l (i + 1), fun p hp q hq => .inl ?_⟩
    obtain ⟨k, hk, h1, -⟩ := plFrom_mem.1 hq
    have h2 : p.1 = (i : Int) := by
      unfold plN at hp
      rcases List.mem_cons.1 hp with rfl | hp
      · rfl
      · obtain ⟨k, hk, rfl⟩ := List.mem_map.1 hp; rfl
    omega
theorem nmN_mem {name : Int} {p : Int × Int} {x : (Int × Int) × Int} : ∀ {ins : List Int} {i : Nat}, x ∈ ((ins.zipIdx i).filterMap fun y => if y.1 = name then some (p, (y.2 : Int)) else none) → x.1 = p ∧ name ∈ ins := by
  intro ins i h
  obtain ⟨y, hy, he⟩ := List.mem_filterMap.1 h
  by_cases hn : y.1 = name
  · rw [if_pos hn] at he
    injection he with he
    subst he
    obtain ⟨h1, h2, h3⟩ := List.mem_zipIdx hy
    exact ⟨rfl, by rw [← hn, h3]; exact List.getElem_mem _⟩
  · rw [if_neg hn] at he; cases he
theorem nmFrom_mem {name : Int} {f : Nat → Int × Int} {x : (Int × Int) × Int} : ∀ {l : List Nd} {i : Nat}, x ∈ nmFrom name f l i → ∃ (k : Nat) (hk : k < l.length), x.1 = f (i + k) ∧ name ∈ l[k].ins
  | [], _, h => by simp [nmFrom] at h
  | n :: l, i, h => by
    unfold nmFrom at h
    rcases List.mem_append.1 h with h | h
    · exact ⟨0, by simp, nmN_mem h⟩
    · obtain ⟨k, hk, h1, h2⟩ := nmFrom_mem h
      exact ⟨k + 1, by simpa using hk, by rw [h1]; congr 1; omega, h2⟩
theorem ouN_mem {name lp : Int} {x : (Int × Int) × Int} {b : List Nd} (h : x ∈ ouN name lp b) : ∃ (k : Nat) (hk : k < b.length), x.1 = (lp, (k : Int)) ∧ name ∈ outs b := by
  unfold ouN at h
  obtain ⟨y, hy, he⟩ := List.mem_filterMap.1 h
  by_cases hn : y.1.op = 11 ∧ y.1.a = name
  · rw [if_pos hn] at he
    injection he with he
    subst he
    obtain ⟨h1, h2⟩ := List.mem_zipIdx' hy
    refine ⟨y.2, h1, rfl, ?_⟩
    unfold outs
    exact List.mem_map.2 ⟨y.1, List.mem_filter.2 ⟨h2 ▸ List.getElem_mem _, by simpa using hn.1⟩, hn.2⟩
  · rw [if_neg hn] at he; cases he
theorem want_le {g : G} {p : Pl} : wantN ((gNd g p).getD default) ≤ 100 := by
  obtain ⟨l, out⟩ := g
  unfold gNd wantN
  by_cases hok : gOk (l, out) = true
  · rw [if_pos hok]
    have hk := gOk_Lk hok
    cases hn : nodeAt l p with
    | none => decide
    | some n =>
      have hf := (gOk_fit hok).1
      obtain ⟨i, hi, -, h2⟩ := nodeAt_cases hn
      rcases h2 with ⟨-, rfl⟩ | ⟨j, hj, -, rfl⟩
      · have := (hf.2 _ (List.getElem_mem hi)).1.2.2.2.2.1
        rw [Option.getD_some]; split <;> omega
      · have := (((hf.2 _ (List.getElem_mem hi)).2).2 _ (List.getElem_mem hj)).1.2.2.2.2.1
        rw [Option.getD_some]; split <;> omega
  · rw [if_neg hok]; decide
end Go.Ox.Gr
namespace Go.Proofs.Ytcacicgkebcdkaa
open Go.RowKit Go.Ox Go.Ox.Gr
end Go.Proofs.Ytcacicgkebcdkaa
