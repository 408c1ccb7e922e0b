/-
  Mom, Stab, packed: what the claim needs of them.
-/
import Derived.Test.YtdkejfjcchlnpaaGreatChecked
import Derived.Test.YtdkejfjcchlnpaaGreatFn05
import Derived.Test.YtdkejfjcchlnpaaGreatFn07
import Derived.Test.YtdkejfjcchlnpaaGreatFn03
import Derived.StillTailTactics
set_option maxHeartbeats 40000000
open Go.Lib (hid)
set_option linter.unusedVariables false
set_option maxRecDepth 100000
namespace Go.Proofs.YtdkejfjcchlnpaaGreat.Mo
open Go.RowKit Go.Ox
abbrev mV (m : Mom.M) : Value := .agg #[.int .i64 m.1, .int .i64 m.2]
def a0Z (x y : Int) : Int := if x < y then -1 else if y < x then 1 else 0
theorem a7F (w : World) (T T' : TypeId) (a b c d : Value) :
 ((w.alloc (.cells #[a, b] T)).alloc (.cells #[c, d] T')).cell? ⟨w.heap.size, 0, none⟩ = some a ∧ ((w.alloc (.cells #[a, b] T)).alloc (.cells #[c, d] T')).cell? ⟨w.heap.size, 1, none⟩ = some b ∧
 ((w.alloc (.cells #[a, b] T)).alloc (.cells #[c, d] T')).cell? ⟨w.heap.size + 1, 0, none⟩ = some c ∧ ((w.alloc (.cells #[a, b] T)).alloc (.cells #[c, d] T')).cell? ⟨w.heap.size + 1, 1, none⟩ = some d := by
 have h1 := Blk.new w T #[a, b];have h2 := Blk.new (w.alloc (.cells #[a, b] T)) T' #[c, d];have h3 := h1.ext ((Ext.refl _).alloc (.cells #[c, d] T'));have hs : (w.alloc (.cells #[a, b] T)).heap.size = w.heap.size + 1 := by simp
 rw [hs] at h2;exact ⟨h3.cell 0, h3.cell 1, h2.cell 0, h2.cell 1⟩
theorem a42 (x : Int) (w : World) : Calls Tryz.prog 114 #[.int .i64 x] w fun e w' => e = .returned (.bool false) ∧ w = w' := by
 go_enter Tryz.func114, Tryz.ntmps114
 go_wp2
 go_ret
 exact ⟨rfl, rfl⟩
theorem a0g (x y : Int) (w : World) : Calls Tryz.prog 77 #[.int .i64 x, .int .i64 y] w fun e w' => e = .returned (.int .i64 (a0Z x y)) ∧ w = w' := by
 unfold a0Z
 by_cases h1 : x < y
 · rw [if_pos h1]
   go_enter Tryz.func77, Tryz.ntmps77
   go_wp2_with (go_at_call 114; refine (a42 _ _).mono ?_; rintro e w' ⟨rfl, rfl⟩)
   go_ret
   exact ⟨rfl, rfl⟩
 rw [if_neg h1]
 by_cases h2 : y < x
 · rw [if_pos h2]
   go_enter Tryz.func77, Tryz.ntmps77
   go_wp2_with (go_at_call 114; refine (a42 _ _).mono ?_; rintro e w' ⟨rfl, rfl⟩)
   go_ret
   exact ⟨rfl, rfl⟩
 rw [if_neg h2]
 go_enter Tryz.func77, Tryz.ntmps77
 go_wp2_with (go_at_call 114; refine (a42 _ _).mono ?_; rintro e w' ⟨rfl, rfl⟩)
 go_ret
 exact ⟨rfl, rfl⟩
def orI (a b : Int) : Int := if a = 0 then b else a
theorem b3j (a b : Mom.M) : orI (a0Z a.1 b.1) (a0Z a.2 b.2) = Mom.cmp a b := by
 unfold orI a0Z Mom.cmp
 repeat' split
 all_goals omega
theorem a9r (v : Value) (a b : Int) (w : World) (hv : Rd w 1 v 2 [.int .i64 a, .int .i64 b]) : Calls Tryz.prog 76 #[v] w fun e w' => e = .returned (.int .i64 (orI a b)) ∧ w = w' := by
 obtain ⟨A, c, rfl, hrd⟩ := hv;obtain ⟨g, o, rfl⟩ := hrd.addr (by omega)
 have hc0 := hrd.get (j := 0) (u := .int .i64 a) rfl;have hc1 := hrd.get (j := 1) (u := .int .i64 b) rfl;rw [Nat.add_zero] at hc0;clear hrd;unfold orI
 go_enter Tryz.func76, Tryz.ntmps76
 go_wp2
 go_loop [8] (fun i => ∃ k : Nat, k ≤ 2 ∧ i = .int .i64 k ∧ (0 < k → a = 0) ∧ (1 < k → b = 0)) (fun i => 2 - (intOf i).toNat)
 case atStart => exact ⟨0, by omega, rfl, fun h => by omega, fun h => by omega⟩
 case round =>
 obtain ⟨k, hk, rfl, h0, h1⟩ := hrel
 match k, hk with
 | 0, _ =>
  by_cases ha : a = 0
  · subst ha
    clear h0 h1
    go_wp2
    exact ⟨⟨1, by omega, rfl, by simp, fun h => by omega⟩, by simp [intOf]⟩
  have hb : (a != 0) = true := by simpa using ha
  clear h0 h1
  go_wp2
  go_ret
  exact ⟨rfl, rfl⟩
 | 1, _ =>
  obtain rfl := h0 (by omega)
  by_cases hb : b = 0
  · subst hb
    clear h0 h1
    go_wp2
    exact ⟨⟨2, by omega, rfl, by simp, by simp⟩, by simp [intOf]⟩
  have hb2 : (b != 0) = true := by simpa using hb
  clear h0 h1
  go_wp2
  go_ret
  exact ⟨rfl, rfl⟩
 | 2, _ =>
  obtain rfl := h0 (by omega)
  obtain rfl := h1 (by omega)
  clear h0 h1
  go_wp2
  go_ret
  exact ⟨rfl, rfl⟩
theorem a0p (m : Mom.M) (w : World) : Calls Tryz.prog 40 #[mV m] w fun e w' => e = .returned (.int .i64 (if Mom.ok m = true then 0 else 40)) ∧ Ext w w' := by
 obtain ⟨e, r⟩ := m;unfold Mom.ok;dsimp only
 by_cases h1 : e < 0
 · rw [if_neg (by simp; omega)]
   go_enter Tryz.func40, Tryz.ntmps40
   go_wp2
   go_ret
   exact ⟨rfl, (Ext.refl _).alloc _⟩
 by_cases h2 : 65536 ≤ e
 · rw [if_neg (by simp; omega)]
   go_enter Tryz.func40, Tryz.ntmps40
   go_wp2
   go_ret
   exact ⟨rfl, (Ext.refl _).alloc _⟩
 by_cases h3 : r < 0
 · rw [if_neg (by simp; omega)]
   go_enter Tryz.func40, Tryz.ntmps40
   go_wp2
   go_ret
   exact ⟨rfl, (Ext.refl _).alloc _⟩
 by_cases h4 : 65536 ≤ r
 · rw [if_neg (by simp; omega)]
   go_enter Tryz.func40, Tryz.ntmps40
   go_wp2
   go_ret
   exact ⟨rfl, (Ext.refl _).alloc _⟩
 rw [if_pos (by simp; omega)]
 go_enter Tryz.func40, Tryz.ntmps40
 go_wp2
 go_ret
 exact ⟨rfl, (Ext.refl _).alloc _⟩
theorem a43 (a b : Mom.M) (w : World) : Calls Tryz.prog 71 #[mV a, mV b] w fun e w' => e = .returned (.bool (Mom.ahead a b)) ∧ Ext w w' := by
 obtain ⟨a1, a2⟩ := a;obtain ⟨b1, b2⟩ := b;unfold Mom.ahead;dsimp only
 by_cases h1 : a1 ≤ b1
 · have d1 : decide (a1 ≤ b1) = true := by simpa using h1
   rw [d1, Bool.true_and]
   by_cases h2 : a2 ≤ b2
   · have d2 : decide (a2 ≤ b2) = true := by simpa using h2
     rw [d2]
     go_enter Tryz.func71, Tryz.ntmps71
     go_wp2
     go_ret
     exact ⟨rfl, ((Ext.refl _).alloc _).alloc _⟩
   have d2 : decide (a2 ≤ b2) = false := by simpa using h2
   rw [d2]
   go_enter Tryz.func71, Tryz.ntmps71
   go_wp2
   go_ret
   exact ⟨rfl, ((Ext.refl _).alloc _).alloc _⟩
 have d1 : decide (a1 ≤ b1) = false := by simpa using h1
 rw [d1, Bool.false_and]
 go_enter Tryz.func71, Tryz.ntmps71
 go_wp2
 go_ret
 exact ⟨rfl, ((Ext.refl _).alloc _).alloc _⟩
theorem a1S (a b : Mom.M) (w : World) : Calls Tryz.prog 78 #[mV a, mV b] w fun e w' => e = .returned (.int .i64 (Mom.cmp a b)) ∧ a02 w w' := by
 have HC := hid (b3j a b);obtain ⟨a1, a2⟩ := a;obtain ⟨b1, b2⟩ := b;dsimp only at *
 go_enter Tryz.func78, Tryz.ntmps78
 go_wp2
 have hb := a7F w 29 29 (.int .i64 a1) (.int .i64 a2) (.int .i64 b1) (.int .i64 b2);obtain ⟨c1, c2, c3, c4⟩ := hb;generalize hw2 : ((w.alloc (.cells #[.int .i64 a1, .int .i64 a2] 29)).alloc (.cells #[.int .i64 b1, .int .i64 b2] 29)) = w2 at *;have hx : a02 w w2 := by rw [← hw2]; exact ((a02.refl _).alloc _).alloc _
 clear hw2;refine a1m [] [] a02 a02 (fun _ => True) (by kernel_rfl) (by rfl) (by rfl) (by kernel_rfl) (by kernel_rfl) (by kernel_rfl) (fun _ _ _ x y => x.trans y) a02.refl (fun _ _ x => x) (a02.refl _).drew (fun _ _ x _ => x) trivial ?_
 refine ya ?_;refine yl1 c1 ?_;refine ya ?_;refine yl1 c3 ?_;refine a06 (fun v _ => v = .int .i64 (a0Z a1 b1)) rfl rfl (a05 rfl) rfl (by exact a0e) ?_ ?_
 · intro a w' hR h1 h2 K hK
   have e1 : _ = _ := h1;have e2 : _ = _ := h2;go_simp;refine (a0g a1 b1 w').mono ?_;rintro e w2 ⟨rfl, rfl⟩;exact hK _ _ (a02.refl _) rfl
 refine ya ?_;refine yl1 c2 ?_;refine ya ?_;refine yl1 c4 ?_;refine a06 (fun v _ => v = .int .i64 (a0Z a2 b2)) rfl rfl (a05 rfl) rfl (by exact a0e) ?_ ?_
 · intro a w' hR h1 h2 K hK
   have e1 : _ = _ := h1;have e2 : _ = _ := h2;go_simp;refine (a0g a2 b2 w').mono ?_;rintro e w2 ⟨rfl, rfl⟩;exact hK _ _ (a02.refl _) rfl
 refine a06 (fun v w2 => Rd w2 1 v 2 [.int .i64 (a0Z a1 b1), .int .i64 (a0Z a2 b2)]) rfl rfl (a05 rfl) rfl (by first | exact (fun _ _ _ h k => Rd.ext h k) | exact (fun _ _ _ h k => Rd.ext h (a02.ext k)) | exact (fun _ _ _ h k => Rd.extV h k)) ?_ ?_
 · intro a w' hR h1 h2 K hK
   have e1 : _ = _ := h1;have e2 : _ = _ := h2;have q1 : a.tmps[9]?.getD undef = .int .i64 (a0Z a1 b1) := by simpa using e1
   have q2 : a.tmps[14]?.getD undef = .int .i64 (a0Z a2 b2) := by simpa using e2
   go_simp;exact hK _ _ ((a02.refl _).alloc _) (Rd.lit _ #[.int .i64 (a0Z a1 b1), .int .i64 (a0Z a2 b2)] _ 2 rfl (by unfold maxLen; omega))
 refine a06 (fun v _ => v = .int .i64 (orI (a0Z a1 b1) (a0Z a2 b2))) rfl rfl (a05 rfl) rfl a0e ?_ ?_
 · intro a w' hR h1 K hK
   obtain ⟨x, ex, fx⟩ : ∃ x, a.tmps.getD 15 undef = x ∧ (fun v w2 => Rd w2 1 v 2 [.int .i64 (a0Z a1 b1), .int .i64 (a0Z a2 b2)]) x w' := ⟨_, rfl, h1⟩
   go_simp;refine (a9r _ _ _ w' fx).mono ?_;rintro e w2 ⟨rfl, rfl⟩;exact hK _ _ (a02.refl _) rfl
 refine ya ?_;refine a0f ?_;intro w5 hx5 hS
 iterate 10 (rintro _ rfl)
 iterate 1 (intro _ hz; clear hz)
 iterate 2 (rintro _ rfl)
 dsimp only [a1K];go_simp
 go_wp2
 go_ret
 rw [HC.o];exact ⟨rfl, hx.trans hx5⟩
end Go.Proofs.YtdkejfjcchlnpaaGreat.Mo
namespace Go.Ox.Stab
open Go.Sort
variable {α : Type} [Inhabited α]
def a2c (a b : Nat) : Nat → Array α → Array α
 | 0, d => d
 | n + 1, d => swp (a2c a b n d) (a + n) (b + n)
theorem a10 (a b : Nat) : ∀ (n : Nat) (d : Array α), (a2c a b n d).size = d.size
 | 0, d => rfl
 | n + 1, d => by rw [a2c, swp_size, a10 a b n d]
theorem a5B {d : Array α} {i j : Nat} (h : i = j) : d[i]! = d[j]! := by rw [h]
theorem a1H {a b : Nat} : ∀ (n : Nat) (d : Array α), a + n ≤ b → b + n ≤ d.size → ∀ k,
 (a2c a b n d)[k]! = if a ≤ k ∧ k < a + n then d[k - a + b]! else if b ≤ k ∧ k < b + n then d[k - b + a]! else d[k]!
 | 0, d, _, _, k => by
  rw [a2c, if_neg (by omega), if_neg (by omega)]
 | n + 1, d, h1, h2, k => by
  rw [a2c, swp_get _ (by rw [a10]; omega) (by rw [a10]; omega)]
  rw [a1H n d (by omega) (by omega), a1H n d (by omega) (by omega), a1H n d (by omega) (by omega)]
  repeat' split
  all_goals first | exact a5B (by omega) | (exfalso; omega)
theorem a2n {a b lo hi : Nat} : ∀ (n : Nat) (d : Array α), lo ≤ a → a + n ≤ hi → lo ≤ b → b + n ≤ hi → hi ≤ d.size → PermIn lo hi d (a2c a b n d)
 | 0, d, _, _, _, _, _ => permIn_refl d lo hi
 | n + 1, d, h1, h2, h3, h4, h5 => permIn_trans _ _ _ lo hi (a2n n d h1 (by omega) h3 (by omega) h5) (swp_permIn _ lo hi _ _ (by omega) (by omega) (by omega) (by omega) (by rw [a10]; exact h5))
def a0t (lo m hi : Nat) (d : Array α) (k : Nat) : α :=
 if lo ≤ k ∧ k < lo + (hi - m) then d[k + (m - lo)]! else if lo + (hi - m) ≤ k ∧ k < hi then d[k - (hi - m)]! else d[k]!
theorem a3d {lo m hi : Nat} {d : Array α} (h : lo = m ∨ m = hi) (h1 : lo ≤ m) (h2 : m ≤ hi) (k : Nat) : a0t lo m hi d k = d[k]! := by
 unfold a0t
 repeat' split
 all_goals first | rfl | exact a5B (by omega) | (exfalso; omega)
theorem a8n {m i j : Nat} {d : Array α} (hi : i ≤ m) (hij : j < i) (hs : m + j ≤ d.size) (k : Nat) :
 a0t (m - (i - j)) m (m + j) (a2c (m - i) m j d) k = a0t (m - i) m (m + j) d k := by
 have g := a1H (a := m - i) (b := m) j d (by omega) hs
 unfold a0t;rw [g, g, g]
 repeat' split
 all_goals first | exact a5B (by omega) | (exfalso; omega)
theorem a6T {m i j : Nat} {d : Array α} (hi : i ≤ m) (hij : i < j) (hs : m + j ≤ d.size) (k : Nat) :
 a0t (m - i) m (m + (j - i)) (a2c (m - i) (m + j - i) i d) k = a0t (m - i) m (m + j) d k := by
 have g := a1H (a := m - i) (b := m + j - i) i d (by omega) (by omega)
 unfold a0t;rw [g, g, g]
 repeat' split
 all_goals first | exact a5B (by omega) | (exfalso; omega)
theorem a8o {m i : Nat} {d : Array α} (hi : i ≤ m) (hs : m + i ≤ d.size) (k : Nat) :
 (a2c (m - i) m i d)[k]! = a0t (m - i) m (m + i) d k := by
 rw [a1H (a := m - i) (b := m) i d (by omega) hs]
 unfold a0t
 repeat' split
 all_goals first | exact a5B (by omega) | (exfalso; omega)
variable {lt : α → α → Bool}
def SM (lt : α → α → Bool) (a m b : Nat) (d d' : Array α) : Prop := PermIn a b d d' ∧ (SortedIn lt a m d → SortedIn lt m b d → SortedIn lt a b d')
theorem SM.left (d : Array α) (a b : Nat) : SM lt a a b d d := ⟨permIn_refl d a b, fun _ h => h⟩
theorem SM.right (d : Array α) (a b : Nat) : SM lt a b b d d := ⟨permIn_refl d a b, fun h _ => h⟩
theorem SM.adj (hO : SWO lt) {a m b : Nat} {d : Array α} (h : m ≤ a ∨ b ≤ m ∨ lt d[m]! d[m - 1]! = false) : SM lt a m b d d := by
 refine ⟨permIn_refl d a b, fun h1 h2 i j hi hij hj => ?_⟩
 by_cases q1 : j < m
 · exact h1 i j hi hij q1
 by_cases q2 : m ≤ i
 · exact h2 i j q2 hij hj
 have h3 : lt d[m]! d[m - 1]! = false := by
  rcases h with h | h | h
  · omega
  · omega
  · exact h
 have h4 : lt d[m - 1]! d[i]! = false := by
  by_cases q : i = m - 1
  · subst q; exact hO.irrefl _
  exact h1 i (m - 1) hi (by omega) (by omega)
 have h5 : lt d[j]! d[m]! = false := by
  by_cases q : j = m
  · subst q; exact hO.irrefl _
  exact h2 m j (Nat.le_refl _) (by omega) hj
 exact hO.ntrans _ _ _ (hO.ntrans _ _ _ h5 h3) h4
theorem SM.join (hO : SWO lt) {a m b mid st en : Nat} {d d1 d2 d3 : Array α} (hs : b ≤ d.size) (h1 : a ≤ st) (h2 : st ≤ m) (h3 : m ≤ en) (h4 : en ≤ b) (h5 : st + en = mid + m)
 (hP : st = a ∨ en = b ∨ lt d[en]! d[st - 1]! = false) (hQ : st = m ∨ en = m ∨ lt d[en - 1]! d[st]! = true)
 (hd : ∀ k, d1[k]! = a0t st m en d k) (hp1 : PermIn a b d d1) (hm1 : SM lt a st mid d1 d2) (hm2 : SM lt mid en b d2 d3) : SM lt a m b d d3 := by
 have s1 : d1.size = d.size := hp1.1;have s2 : d2.size = d1.size := hm1.1.1;have hp2 := permIn_mono d1 d2 a mid a b (Nat.le_refl _) (by omega) (by omega) hm1.1
 have hp3 := permIn_mono d2 d3 mid b a b (by omega) (Nat.le_refl _) (by omega) hm2.1
 refine ⟨permIn_trans _ _ _ a b (permIn_trans _ _ _ a b hp1 hp2) hp3, fun S1 S2 => ?_⟩
 have g1 : ∀ k, a ≤ k → k < st → d1[k]! = d[k]! := fun k hk1 hk2 => by rw [hd]; unfold a0t; rw [if_neg (by omega), if_neg (by omega)]
 have g2 : ∀ k, st ≤ k → k < mid → d1[k]! = d[k + (m - st)]! := fun k hk1 hk2 => by rw [hd]; unfold a0t; rw [if_pos (by omega)]
 have g3 : ∀ k, mid ≤ k → k < en → d1[k]! = d[k - (en - m)]! := fun k hk1 hk2 => by rw [hd]; unfold a0t; rw [if_neg (by omega), if_pos (by omega)]
 have g4 : ∀ k, en ≤ k → d1[k]! = d[k]! := fun k hk1 => by rw [hd]; unfold a0t; rw [if_neg (by omega), if_neg (by omega)]
 have hA : SortedIn lt a mid d2 := hm1.2 (fun i j hi hij hj => by rw [g1 i hi (by omega), g1 j (by omega) hj]; exact S1 i j hi hij (by omega))
  (fun i j hi hij hj => by rw [g2 i hi (by omega), g2 j (by omega) hj]; exact S2 _ _ (by omega) (by omega) (by omega))
 have e2 : ∀ k, mid ≤ k → d2[k]! = d1[k]! := fun k hk => hm1.1.2.1 k (.inr hk)
 have hB : SortedIn lt mid b d3 := hm2.2 (fun i j hi hij hj => by rw [e2 i hi, e2 j (by omega), g3 i hi (by omega), g3 j (by omega) hj]; exact S1 _ _ (by omega) (by omega) (by omega))
  (fun i j hi hij hj => by rw [e2 i (by omega), e2 j (by omega), g4 i hi, g4 j (by omega)]; exact S2 _ _ (by omega) hij hj)
 have e3 : ∀ k, k < mid → d3[k]! = d2[k]! := fun k hk => hm2.1.2.1 k (.inl hk)
 -- each of the first ones is at most each of the others
 have cross : ∀ i, a ≤ i → i < mid → ∀ j, mid ≤ j → j < b → lt d1[j]! d1[i]! = false := by
  intro i hi1 hi2 j hj1 hj2
  by_cases q1 : i < st
  · rw [g1 i hi1 q1]
    by_cases q2 : j < en
    · rw [g3 j hj1 q2]
      exact S1 _ _ hi1 (by omega) (by omega)
    rw [g4 j (by omega)]
    have k1 : lt d[en]! d[st - 1]! = false := by
     rcases hP with h | h | h
     · omega
     · omega
     exact h
    have k2 : lt d[st - 1]! d[i]! = false := by
     by_cases q : i = st - 1
     · subst q; exact hO.irrefl _
     exact S1 i (st - 1) hi1 (by omega) (by omega)
    have k3 : lt d[j]! d[en]! = false := by
     by_cases q : j = en
     · subst q; exact hO.irrefl _
     exact S2 en j h3 (by omega) hj2
    exact hO.ntrans _ _ _ (hO.ntrans _ _ _ k3 k1) k2
  rw [g2 i (by omega) hi2]
  by_cases q2 : j < en
  · rw [g3 j hj1 q2]
    have k1 : lt d[en - 1]! d[st]! = true := by
     rcases hQ with h | h | h
     · omega
     · omega
     exact h
    have k2 : lt d[j - (en - m)]! d[st]! = false := by
     by_cases q : j - (en - m) = st
     · rw [q]; exact hO.irrefl _
     exact S1 st _ h1 (by omega) (by omega)
    have k3 : lt d[en - 1]! d[i + (m - st)]! = false := by
     by_cases q : i + (m - st) = en - 1
     · rw [q]; exact hO.irrefl _
     exact S2 _ (en - 1) (by omega) (by omega) (by omega)
    exact hO.ntrans _ _ _ (hO.ntrans _ _ _ k2 (hO.asymmA k1)) k3
  rw [g4 j (by omega)]
  exact S2 _ _ (by omega) (by omega) hj2
 have c2 : ∀ i, a ≤ i → i < mid → ∀ j, mid ≤ j → j < b → lt d2[j]! d2[i]! = false := by
  have := permIn_all d1 d2 a mid (fun x => ∀ j, mid ≤ j → j < b → lt d1[j]! x = false) (by omega) hm1.1 cross
  intro i hi1 hi2 j hj1 hj2;rw [e2 j hj1];exact this i hi1 hi2 j hj1 hj2
 have c3 : ∀ j, mid ≤ j → j < b → ∀ i, a ≤ i → i < mid → lt d3[j]! d2[i]! = false :=
  permIn_all d2 d3 mid b (fun y => ∀ i, a ≤ i → i < mid → lt y d2[i]! = false) (by omega) hm2.1 (fun j hj1 hj2 i hi1 hi2 => c2 i hi1 hi2 j hj1 hj2)
 intro i j hi hij hj
 by_cases q1 : j < mid
 · rw [e3 i (by omega), e3 j q1]; exact hA i j hi hij q1
 by_cases q2 : mid ≤ i
 · exact hB i j q2 hij hj
 rw [e3 i (by omega)]
 exact c3 j (by omega) hj i hi (by omega)
def a0V (lt : α → α → Bool) (bs lo hi : Nat) (d : Array α) : Prop := ∀ i j, lo ≤ i → i < j → j < hi → i / bs = j / bs → lt d[j]! d[i]! = false
theorem a6e {bs u i : Nat} (h0 : 0 < bs) (h : i < bs * u) : i / bs < u := by rw [Nat.div_lt_iff_lt_mul h0, Nat.mul_comm]; exact h
theorem a6f {bs u i : Nat} (h0 : 0 < bs) (h : bs * u ≤ i) : u ≤ i / bs := by rw [Nat.le_div_iff_mul_le h0, Nat.mul_comm]; exact h
theorem b2J {bs u i : Nat} (h0 : 0 < bs) (h : bs * u ≤ i) (h2 : i < bs * u + bs) : i / bs = u := by
 have h1 := a6f h0 h;have h3 := a6e (u := u + 1) h0 (by rw [Nat.mul_add]; omega : i < bs * (u + 1))
 omega
theorem a0V.more {bs u hi : Nat} {d d' : Array α} (h0 : 0 < bs) (h : a0V lt bs 0 (bs * u) d) (hh : hi ≤ bs * u + bs) (he : ∀ k, k < bs * u → d'[k]! = d[k]!) (hs : SortedIn lt (bs * u) hi d') : a0V lt bs 0 hi d' := by
 intro i j hi1 hij hj hq
 by_cases q1 : j < bs * u
 · rw [he i (by omega), he j q1]; exact h i j hi1 hij q1 hq
 by_cases q2 : bs * u ≤ i
 · exact hs i j q2 hij hj
 have h1 := a6e h0 (by omega : i < bs * u)
 have h2 := a6f h0 (by omega : bs * u ≤ j)
 omega
theorem a0V.sorted {bs u lo n hi : Nat} {d : Array α} (h0 : 0 < bs) (h : a0V lt bs lo n d) (hl : lo ≤ bs * u) (h1 : hi ≤ bs * u + bs) (h2 : hi ≤ n) : SortedIn lt (bs * u) hi d := fun i j hi hij hj =>
 h i j (by omega) hij (by omega) (by rw [b2J h0 hi (by omega), b2J h0 (by omega : bs * u ≤ j) (by omega)])
theorem a0V.all {bs n : Nat} {d : Array α} (h : a0V lt bs 0 n d) (hn : n ≤ bs) : SortedIn lt 0 n d := fun i j hi hij hj =>
 h i j hi hij hj (by rw [Nat.div_eq_of_lt (by omega), Nat.div_eq_of_lt (by omega)])
theorem a0V.keep {bs lo hi lo' hi' : Nat} {d d' : Array α} (h : a0V lt bs lo hi d) (h1 : lo ≤ lo') (h2 : hi' ≤ hi) (he : ∀ k, lo' ≤ k → k < hi' → d'[k]! = d[k]!) : a0V lt bs lo' hi' d' := fun i j hi hij hj hq => by
 rw [he i hi (by omega), he j (by omega) hj]
 exact h i j (by omega) hij (by omega) hq
theorem a0V.nil (bs : Nat) (d : Array α) : a0V lt bs 0 0 d := fun i j _ _ hj => by omega
end Go.Ox.Stab
