/-
  Sort, App0, packed: what the claim needs of them.
-/
import Derived.Test.YtdkejfjcchlnpaaGreatFt02
import Derived.Shelf.SlSortCmp.InsertionK
namespace Go.Ox
open Go.RowKit Go.Proofs Go.Sort
def a04 (w w' : World) : Prop := ∃ q os, w' = grow (w.drewN q) os
theorem a04.refl (w : World) : a04 w w := ⟨0, #[], by rw [grow_empty]; rfl⟩
theorem a04.trans {a b c : World} (h : a04 a b) (k : a04 b c) : a04 a c := by
 obtain ⟨q, os, rfl⟩ := h;obtain ⟨p, os', rfl⟩ := k;refine ⟨q + p, os ++ os', ?_⟩;unfold grow World.drewN;simp [Nat.add_assoc, Array.append_assoc]
theorem a04.alloc {a b : World} (h : a04 a b) (o : Obj) : a04 a (b.alloc o) := h.trans ⟨0, #[o], by rw [alloc_eq_grow]; rfl⟩
theorem a04.drew {a b : World} (h : a04 a b) : a04 a b.drew := h.trans ⟨1, #[], by rw [grow_empty]; rfl⟩
theorem a04.ext {a b : World} (h : a04 a b) : Ext a b := by
 obtain ⟨q, os, rfl⟩ := h;refine ⟨rfl, rfl, rfl, by simp [grow, World.drewN], fun k hk => ?_⟩
 show (a.heap ++ os)[k]? = a.heap[k]?;rw [Array.getElem?_append_left hk]
section
variable {α : Type} [Inhabited α] {enc : α -> List Value} {k : Nat}
omit [Inhabited α] in
theorem a2N (hk : ∀ x, (enc x).length = k) : ∀ (l : List α), (l.flatMap enc).length = l.length * k
 | [] => by simp
 | a :: l => by rw [List.flatMap_cons, List.length_append, hk, a2N hk l, List.length_cons, Nat.add_mul]; omega
theorem a9k (hk : ∀ x, (enc x).length = k) (h0 : 0 < k) : ∀ (l : List α) (t : Nat), t < l.length * k -> (l.flatMap enc)[t]? = some ((enc l[t / k]!)[t % k]!)
 | [], t, h => by simp at h
 | a :: l, t, h => by
  rw [List.flatMap_cons]
  by_cases ht : t < k
  . rw [List.getElem?_append_left (by rw [hk]; exact ht), Nat.div_eq_of_lt ht, Nat.mod_eq_of_lt ht, List.getElem?_eq_getElem (by rw [hk]; exact ht)]
    simp only [List.getElem!_cons_zero];rw [getElem!_pos (enc a) t (by rw [hk]; exact ht)]
  . have e1 : t / k = (t - k) / k + 1 := by rw [<- Nat.add_div_right _ h0]; congr 1; omega
    have e2 : t % k = (t - k) % k := by rw [<- Nat.add_mod_right (t - k) k]; congr 1; omega
    rw [List.getElem?_append_right (by rw [hk]; omega), hk, a9k hk h0 l (t - k) (by rw [List.length_cons, Nat.add_mul] at h; omega), e1, e2, List.getElem!_cons_succ]
theorem a5Z (hk : ∀ x, (enc x).length = k) (h0 : 0 < k) (d : Array α) : (flatK enc k d).toList = d.toList.flatMap enc := by
 apply List.ext_getElem?;intro t
 by_cases ht : t < d.size * k
 . rw [a9k hk h0 _ _ (by simpa using ht)]
   have h1 := get_flatK enc k d t ht;rw [getElem!_pos (flatK enc k d) t (by simpa using ht)] at h1
   rw [List.getElem?_eq_getElem (by simpa using ht)]
   simp only [Array.getElem_toList];rw [h1]
   congr 2
   have hi : t / k < d.size := Nat.div_lt_of_lt_mul (by rw [Nat.mul_comm]; exact ht)
   rw [getElem!_pos d _ hi, getElem!_pos d.toList _ (by simpa using hi)]
   simp
 rw [List.getElem?_eq_none (by simpa using ht), List.getElem?_eq_none (by rw [a2N hk]; simpa using ht)]
theorem a1b (hk : ∀ x, (enc x).length = k) (h0 : 0 < k) {w : World} {base E g n cap : Nat} {l : List α} (h : w.ownsRow base E k (.slice (some ⟨g, 0, none⟩) n cap) n (l.flatMap enc)) : HoldsK enc k w g 0 l.toArray := by
 have hl : l.length = n := by
  have := h.1;rw [a2N hk] at this;exact Nat.eq_of_mul_eq_mul_right h0 this
 rcases h.2 with ⟨h, _⟩ | ⟨g', cap', cur, he, hb, hh, hnc, hcm, hcs, ht⟩
 . cases h
 injection he with e1 e2 e3
 injection e1 with e1
 injection e1 with e1
 subst e1;intro j hj;have hj' : j < (l.flatMap enc).length := by rw [a2N hk]; simpa using hj
 have hx : (l.flatMap enc)[j]? = cur[j]? := by
  rw [<- ht, List.getElem?_take, if_pos (by rw [h.1] at hj'; exact hj')]
  simp
 refine ⟨?_, by simp [World.frozen?, hh]⟩
 simp only [World.cell?, hh, Nat.zero_add]
 have h1 : (flatK enc k l.toArray)[j]! = (l.flatMap enc)[j]'hj' := by
  rw [getElem!_pos _ j hj, <- Array.getElem_toList];have := a5Z hk h0 l.toArray;simp only [this]
 rw [h1, id];rw [List.getElem?_eq_getElem hj'] at hx;simpa using hx.symm
theorem a1K (hk : ∀ x, (enc x).length = k) (h0 : 0 < k) {w w' : World} {base E g n cap m : Nat} {l : List α} {d' : Array α} {os : Array Obj} (h : w.ownsRow base E k (.slice (some ⟨g, 0, none⟩) n cap) n (l.flatMap enc)) (hs : d'.size = n)
 (hw : w' = sortWorldK enc k w g 0 m d' os) : w'.ownsRow base E k (.slice (some ⟨g, 0, none⟩) n cap) n (d'.toList.flatMap enc) ∧ w.grownBy w' (some g) := by
 have hg := (h.lt g rfl).2;refine ⟨⟨by rw [a2N hk]; simp [hs], ?_⟩, ?_⟩
 . rcases h.2 with ⟨h, _⟩ | ⟨g', cap', cur, he, hb, hh, hnc, hcm, hcs, ht⟩
   . cases h
   injection he with e1 e2 e3
   injection e1 with e1
   injection e1 with e1
   subst e1 e3;refine .inr ⟨g, cap, putCells id 0 (flatK enc k d') cur, rfl, hb, ?_, hnc, hcm, by simp [putCells, hcs], ?_⟩
   . rw [hw]
     show ((Go.Sort.ahead w m).heap.modify g (onCells (putCells id 0 (flatK enc k d'))) ++ os)[g]? = _;rw [Array.getElem?_append_left (by simpa using hg), Array.getElem?_modify, if_pos rfl]
     show Option.map _ (w.heap[g]?) = _;rw [hh];rfl
   rw [<- a5Z hk h0];apply List.ext_getElem?;intro t;have hsz : n * k <= cur.size := by rw [hcs]; exact Nat.mul_le_mul_right _ hnc
   by_cases ht' : t < n * k
   . rw [List.getElem?_take, if_pos ht']
     have h1 : t < (flatK enc k d').size := by simpa [hs] using ht'
     simp only [putCells, Array.getElem?_toList, Array.getElem?_mapIdx];rw [Array.getElem?_eq_getElem (by omega)]
     simp only [Option.map_some, Nat.zero_le, true_and, Nat.zero_add];rw [if_pos h1, Nat.sub_zero, id, getElem!_pos _ t h1, Array.getElem?_eq_getElem h1]
   rw [List.getElem?_take, if_neg ht', List.getElem?_eq_none (by simpa [hs] using ht')]
 rw [hw];refine ⟨rfl, rfl, rfl, ?_, fun j hj hne => ?_⟩
 . simp [sortWorldK, grow, putRowK]
 show ((Go.Sort.ahead w m).heap.modify g _ ++ os)[j]? = _;rw [Array.getElem?_append_left (by simpa using hj), Array.getElem?_modify, if_neg (fun e => hne (by rw [e]))]
 rfl
theorem a6F {d d' : Array α} (h : PermIn 0 d.size d d') : d'.toList.Perm d.toList := by
 obtain ⟨hs, _, hp⟩ := h;rw [Array.extract_eq_self_of_le (by omega), Array.extract_eq_self_of_le (Nat.le_refl _)] at hp
 exact hp
theorem a3w {lt : α -> α -> Bool} {d : Array α} {n : Nat} (h : SortedIn lt 0 n d) (hn : d.size = n) : d.toList.Pairwise fun a b => lt b a = false := by
 rw [List.pairwise_iff_getElem];intro i j hi hj hij;have := h i j (Nat.zero_le _) hij (by simpa [hn] using hj)
 rw [getElem!_pos d i (by simpa using hi), getElem!_pos d j (by simpa using hj)] at this
 simpa using this
end
end Go.Ox
namespace Go.Ox
open Go.RowKit
def E0 (base : Nat) (e : TypeId) (v : Value) (w : World) : Prop := ∃ g, v = .slice (some ⟨g, 0, none⟩) 0 0 ∧ base <= g ∧ Blk w g e #[]
theorem E0.ext {base : Nat} {e : TypeId} {v : Value} {w w' : World} (h : E0 base e v w) (k : Ext w w') : E0 base e v w' := by
 obtain ⟨g, h1, h3, h2⟩ := h;exact ⟨g, h1, h3, h2.ext k⟩
theorem E0.new {base : Nat} (e : TypeId) (w : World) (hb : base <= w.heap.size) : E0 base e (.slice (some ⟨w.heap.size, 0, none⟩) 0 0) (w.alloc (.cells #[] e)) := ⟨_, rfl, hb, Blk.new _ _ _⟩
def O0 (base e size n : Nat) (xs : List Value) (v : Value) (w : World) : Prop := w.ownsRow base e size v n xs
section
variable {P : Program} {t e : TypeId} {z : Value} {size bytes : Nat}
theorem b3M (el : Elem P t e z size bytes) (w : World) (ty : TypeId) (v : Value) {base : Nat} (h0 : E0 base e v w) (vx : Value) (m : Nat) (news : List Value) (hr : Rd w size vx m news) (h1 : ∀ u ∈ news, u.oneCell' = true)
 (hbytes : m * bytes <= 140737488355328) (hm : m <= maxLen) :
 ∃ v' w', (Builtin.append_ #[t, t] ty #[v, vx]).run P w = .ok v' w' ∧ O0 base e size m news v' w' ∧ Ext w w' := by
 obtain ⟨g, rfl, hbg, hb⟩ := h0;obtain ⟨A, c, rfl, hr⟩ := hr;obtain ⟨i, hi, hz, hs, hby⟩ := el.info
 have hown : w.ownsRow base e size (.slice (some ⟨g, 0, none⟩) 0 0) 0 [] :=
  ⟨by simp, .inr ⟨g, 0, #[], rfl, hbg, hb, Nat.le_refl _, by unfold maxLen; omega, by simp, by simp⟩⟩
 obtain ⟨v', w', hrun, ha⟩ := b1k el w ty base _ 0 [] hown A m c news hr h1 (by rw [Nat.zero_add]; exact hbytes) (by omega) (by have := hb.lt; omega)
 have ho := ha.own;rw [Nat.zero_add, List.nil_append] at ho;refine ⟨v', w', hrun, ho, ?_⟩
 rcases A with _ | ad
 . have hm0 : m = 0 := by have := hr.nil rfl; have := hr.nc; omega
   subst hm0
   have hq : (Builtin.append_ #[t, t] ty #[.slice (some ⟨g, 0, none⟩) 0 0, .slice none 0 c]).run P w = .ok (.slice (some ⟨g, 0, none⟩) 0 0) w := by
    simp [Builtin.append_, run_underlying el.under, sizeOf, typeInfo, hi, Builtin.lenOf, Builtin.firstCells, storeCells]
   rw [hq] at hrun;injection hrun with _ h2
   subst h2;exact Ext.refl _
 by_cases hm0 : m = 0
 . subst hm0
   have hn : news = [] := List.eq_nil_of_length_eq_zero (by simpa using hr.len)
   subst hn;have hq := run_append_room (P := P) w t ty e i el.under hi g 0 0 #[] hb ad 0 c [] (by simp) (fun j u hu => by simp at hu) h1 (by omega) (by simp)
   rw [hrun] at hq;injection hq with _ h2
   subst h2;simp only [List.append_nil]
   exact ⟨rfl, rfl, rfl, by simp, fun k hk => by
    by_cases hkg : k = g
    . subst hkg
      rw [setRow_heap w k #[] _ e (0, 0) hb];have : w.heap[k]? = _ := hb;rw [this]; simp
    exact setRow_other w g k _ hkg⟩
 have hcells : ∀ j u, news[j]? = some u -> w.cell? (ad.add j) = some u := fun j u hu => by
  obtain ⟨hs', this⟩ := hr.at_ _ rfl j u hu;obtain ⟨b, o, s⟩ := ad;simp only at hs'; subst hs';unfold Addr.add
  split
  . rename_i h0; subst h0; simpa using this
  . exact this
 subst hs;subst hby;have hq := run_append_grow (P := P) w t ty e i z el.under hi hz ⟨g, 0, none⟩ 0 0 [] (by simp) (fun j u hu => by simp at hu) ad m c news hr.len hcells (by omega) (by simp only [maxLen] at hm; omega) (growslice_fits (by omega) (by rw [Nat.zero_add]; exact hbytes))
 rw [hrun] at hq;injection hq with _ h2
 subst h2;exact (Ext.refl _).drew.alloc _
theorem b1o {o : Oper} {a : Act} {K : Act -> World -> Prop} {Q : Exit -> Act -> World -> Prop} (el : Elem P t e z size bytes) (w : World) (s x : Operand)
 (ho : o.op = .call { callee := .builtin .append, args := #[s, x], argTypes := #[t, t] }) (v : Value) (hs : a.eval s = v) {base : Nat} (h0 : E0 base e v w) (vx : Value) (m : Nat) (news : List Value) (hx : a.eval x = vx) (hr : Rd w size vx m news) (h1 : ∀ u ∈ news, u.oneCell' = true)
 (hbytes : m * bytes <= 140737488355328) (hm : m <= maxLen)
 (h : ∀ v' w', Ext w w' -> O0 base e size m news v' w' -> K (a.put o.dst v') w') : o.wp P a w K Q := by
 obtain ⟨v', w', hrun, h2, h3⟩ := b3M el w o.type v h0 vx m news hr h1 hbytes hm;exact Go.Lib.wp_append_run w s x t t ho _ _ hs hx v' w' hrun (h v' w' h3 h2)
end
end Go.Ox
