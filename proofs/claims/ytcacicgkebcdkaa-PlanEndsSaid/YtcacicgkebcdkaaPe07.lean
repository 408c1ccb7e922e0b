/-
  MomMath, Mom, Stab, packed: what the claim needs of them.
-/
import Derived.Test.YtcacicgkebcdkaaPe02
import Derived.Test.YtcacicgkebcdkaaChecked
import Derived.Test.YtcacicgkebcdkaaPe04
import Derived.Test.YtcacicgkebcdkaaPe05
import Derived.Test.YtcacicgkebcdkaaPe03
import Derived.WalkKit
import Derived.WalkSpells
import Derived.WalkLawsBesides
import Derived.StillTailTactics
import Derived.IntWalk
import Derived.Sort.LotA
set_option linter.unusedVariables false
set_option maxRecDepth 100000
namespace Go.Ox.Mom
abbrev M := Int × Int
def ok (m : M) : Bool := decide (0 ≤ m.1) && decide (m.1 < 65536) && (decide (0 ≤ m.2) && decide (m.2 < 65536))
def ahead (a b : M) : Bool := decide (a.1 ≤ b.1) && decide (a.2 ≤ b.2)
def cmp (a b : M) : Int := if a.1 < b.1 then -1 else if b.1 < a.1 then 1 else if a.2 < b.2 then -1 else if b.2 < a.2 then 1 else 0
def covers (f : List M) (m : M) : Bool := f.any fun x => ahead x m
def lt (a b : M) : Prop := a.1 < b.1 ∨ (a.1 = b.1 ∧ a.2 < b.2)
theorem lt_irrefl (a : M) : ¬ lt a a := by unfold lt; omega
theorem lt_trans {a b c : M} (h : lt a b) (k : lt b c) : lt a c := by unfold lt at *; omega
theorem lt_conn (a b : M) : lt a b ∨ a = b ∨ lt b a := by
  obtain ⟨a1, a2⟩ := a
  obtain ⟨b1, b2⟩ := b
  unfold lt
  simp only [Prod.mk.injEq]
  omega
theorem ahead_refl (a : M) : ahead a a = true := by unfold ahead; simp
theorem covers_iff {f : List M} {m : M} : covers f m = true ↔ ∃ x ∈ f, ahead x m = true := by unfold covers; simp
def step (out : List M) (m : M) : List M := if covers out m = true then out else out ++ [m]
structure Good (pre out : List M) : Prop where
  cov : ∀ k ∈ pre, covers out k = true
  sub : ∀ k ∈ out, k ∈ pre
  asc : out.Pairwise lt
  anti : out.Pairwise fun a b => ahead a b = false
theorem Good.step {pre out : List M} {m : M} (h : Good pre out) (hm : ∀ k ∈ pre, ¬ lt m k) : Good (pre ++ [m]) (step out m) := by
  unfold Mom.step
  split
  · rename_i hc
    refine ⟨fun k hk => ?_, fun k hk => List.mem_append_left _ (h.sub k hk), h.asc, h.anti⟩
    rcases List.mem_append.1 hk with hk | hk
    · exact h.cov k hk
    · rw [List.mem_singleton.1 hk]; exact hc
  · rename_i hc
    have hno : ∀ x ∈ out, ahead x m = false := fun x hx => by
      cases hq : ahead x m with
      | false => rfl
      | true => exact absurd (covers_iff.2 ⟨x, hx, hq⟩) hc
    refine ⟨fun k hk => ?_, fun k hk => ?_, ?_, ?_⟩
    · rcases List.mem_append.1 hk with hk | hk
      · obtain ⟨x, hx, hq⟩ := covers_iff.1 (h.cov k hk)
        exact covers_iff.2 ⟨x, List.mem_append_left _ hx, hq⟩
      · rw [List.mem_singleton.1 hk]
        exact covers_iff.2 ⟨m, by simp, ahead_refl m⟩
    · rcases List.mem_append.1 hk with hk | hk
      · exact List.mem_append_left _ (h.sub k hk)
      · exact List.mem_append_right _ hk
    · refine List.pairwise_append.2 ⟨h.asc, by simp, fun a ha b hb => ?_⟩
      rw [List.mem_singleton.1 hb]
      rcases lt_conn a m with h1 | h1 | h1
      · exact h1
      · exfalso
        have := hno a ha
        rw [h1, ahead_refl] at this
        cases this
      · exact absurd h1 (hm a (h.sub a ha))
    · refine List.pairwise_append.2 ⟨h.anti, by simp, fun a ha b hb => ?_⟩
      rw [List.mem_singleton.1 hb]
      exact hno a ha
def least (l : List M) (m : M) : Bool := l.all fun k => decide (k = m) || !ahead k m
def place (out : List M) (m : M) : Nat := (out.takeWhile fun x => decide (cmp x m < 0)).length
def ins (out : List M) (m : M) : List M :=
  if out[place out m]? = some m then out else out.take (place out m) ++ m :: out.drop (place out m)
end Go.Ox.Mom
namespace Go.Proofs.Ytcacicgkebcdkaa.Mo
open Go.RowKit Go.Ox
abbrev mV (m : Mom.M) : Value := .agg #[.int .i64 m.1, .int .i64 m.2]
def cmpI (x y : Int) : Int := if x < y then -1 else if y < x then 1 else 0
theorem boxes2 (w : World) (T T' : TypeId) (a b c d : Value) :
    ((w.alloc (.cells #[a, b] T)).alloc (.cells #[c, d] T')).cell? ⟨w.heap.size, 0, none⟩ = some a ∧ ((w.alloc (.cells #[a, b] T)).alloc (.cells #[c, d] T')).cell? ⟨w.heap.size, 1, none⟩ = some b ∧
    ((w.alloc (.cells #[a, b] T)).alloc (.cells #[c, d] T')).cell? ⟨w.heap.size + 1, 0, none⟩ = some c ∧ ((w.alloc (.cells #[a, b] T)).alloc (.cells #[c, d] T')).cell? ⟨w.heap.size + 1, 1, none⟩ = some d := by
  have h1 := Blk.new w T #[a, b]
  have h2 := Blk.new (w.alloc (.cells #[a, b] T)) T' #[c, d]
  have h3 := h1.ext ((Ext.refl _).alloc (.cells #[c, d] T'))
  have hs : (w.alloc (.cells #[a, b] T)).heap.size = w.heap.size + 1 := by simp
  rw [hs] at h2
  exact ⟨h3.cell 0, h3.cell 1, h2.cell 0, h2.cell 1⟩
set_option maxHeartbeats 400000 in
theorem isNaN_any (x : Int) (w : World) : Calls Try.prog 76 #[.int .i64 x] w fun e w' => e = .returned (.bool false) ∧ w = w' := by
  go_enter Try.func76, Try.ntmps76
  go_wp2
  go_ret
  exact ⟨rfl, rfl⟩
set_option maxHeartbeats 400000 in
theorem compareInt_any (x y : Int) (w : World) : Calls Try.prog 60 #[.int .i64 x, .int .i64 y] w fun e w' => e = .returned (.int .i64 (cmpI x y)) ∧ w = w' := by
  unfold cmpI
  by_cases h1 : x < y
  · rw [if_pos h1]
    go_enter Try.func60, Try.ntmps60
    go_wp2_with (go_at_call 76; refine (isNaN_any _ _).mono ?_; rintro e w' ⟨rfl, rfl⟩)
    go_ret
    exact ⟨rfl, rfl⟩
  · rw [if_neg h1]
    by_cases h2 : y < x
    · rw [if_pos h2]
      go_enter Try.func60, Try.ntmps60
      go_wp2_with (go_at_call 76; refine (isNaN_any _ _).mono ?_; rintro e w' ⟨rfl, rfl⟩)
      go_ret
      exact ⟨rfl, rfl⟩
    · rw [if_neg h2]
      go_enter Try.func60, Try.ntmps60
      go_wp2_with (go_at_call 76; refine (isNaN_any _ _).mono ?_; rintro e w' ⟨rfl, rfl⟩)
      go_ret
      exact ⟨rfl, rfl⟩
def orI (a b : Int) : Int := if a = 0 then b else a
theorem cmpOr (a b : Mom.M) : orI (cmpI a.1 b.1) (cmpI a.2 b.2) = Mom.cmp a b := by
  unfold orI cmpI Mom.cmp
  repeat' split
  all_goals omega
set_option maxHeartbeats 400000 in
theorem or_any (v : Value) (a b : Int) (w : World) (hv : Rd w 1 v 2 [.int .i64 a, .int .i64 b]) : Calls Try.prog 33 #[v] w fun e w' => e = .returned (.int .i64 (orI a b)) ∧ w = w' := by
  obtain ⟨A, c, rfl, hrd⟩ := hv
  obtain ⟨g, o, rfl⟩ := hrd.addr (by omega)
  have hc0 := hrd.get (j := 0) (u := .int .i64 a) rfl
  have hc1 := hrd.get (j := 1) (u := .int .i64 b) rfl
  rw [Nat.add_zero] at hc0
  clear hrd
  unfold orI
  go_enter Try.func33, Try.ntmps33
  go_wp2
  go_loop [8] (fun i => ∃ k : Nat, k ≤ 2 ∧ i = .int .i64 k ∧ (0 < k → a = 0) ∧ (1 < k → b = 0)) (fun i => 2 - (intOf i).toNat)
  case atStart => exact ⟨0, by omega, rfl, fun h => by omega, fun h => by omega⟩
  case round =>
    obtain ⟨k, hk, rfl, h0, h1⟩ := hrel
    match k, hk with
    | 0, _ =>
      by_cases ha : a = 0
      · subst ha
        clear h0 h1
        go_wp2
        exact ⟨⟨1, by omega, rfl, by simp, fun h => by omega⟩, by simp [intOf]⟩
      · have hb : (a != 0) = true := by simpa using ha
        clear h0 h1
        go_wp2
        go_ret
        exact ⟨rfl, rfl⟩
    | 1, _ =>
      obtain rfl := h0 (by omega)
      by_cases hb : b = 0
      · subst hb
        clear h0 h1
        go_wp2
        exact ⟨⟨2, by omega, rfl, by simp, by simp⟩, by simp [intOf]⟩
      · have hb2 : (b != 0) = true := by simpa using hb
        clear h0 h1
        go_wp2
        go_ret
        exact ⟨rfl, rfl⟩
    | 2, _ =>
      obtain rfl := h0 (by omega)
      obtain rfl := h1 (by omega)
      clear h0 h1
      go_wp2
      go_ret
      exact ⟨rfl, rfl⟩
set_option maxHeartbeats 400000 in
theorem check_any (m : Mom.M) (w : World) : Calls Try.prog 41 #[mV m] w fun e w' => e = .returned (.int .i64 (if Mom.ok m = true then 0 else 40)) ∧ Ext w w' := by
  obtain ⟨e, r⟩ := m
  unfold Mom.ok
  dsimp only
  by_cases h1 : e < 0
  · rw [if_neg (by simp; omega)]
    go_enter Try.func41, Try.ntmps41
    go_wp2
    go_ret
    exact ⟨rfl, (Ext.refl _).alloc _⟩
  by_cases h2 : 65536 ≤ e
  · rw [if_neg (by simp; omega)]
    go_enter Try.func41, Try.ntmps41
    go_wp2
    go_ret
    exact ⟨rfl, (Ext.refl _).alloc _⟩
  by_cases h3 : r < 0
  · rw [if_neg (by simp; omega)]
    go_enter Try.func41, Try.ntmps41
    go_wp2
    go_ret
    exact ⟨rfl, (Ext.refl _).alloc _⟩
  by_cases h4 : 65536 ≤ r
  · rw [if_neg (by simp; omega)]
    go_enter Try.func41, Try.ntmps41
    go_wp2
    go_ret
    exact ⟨rfl, (Ext.refl _).alloc _⟩
  · rw [if_pos (by simp; omega)]
    go_enter Try.func41, Try.ntmps41
    go_wp2
    go_ret
    exact ⟨rfl, (Ext.refl _).alloc _⟩
set_option maxHeartbeats 400000 in
theorem ahead_any (a b : Mom.M) (w : World) : Calls Try.prog 43 #[mV a, mV b] w fun e w' => e = .returned (.bool (Mom.ahead a b)) ∧ Ext w w' := by
  obtain ⟨a1, a2⟩ := a
  obtain ⟨b1, b2⟩ := b
  unfold Mom.ahead
  dsimp only
  by_cases h1 : a1 ≤ b1
  · have d1 : decide (a1 ≤ b1) = true := by simpa using h1
    rw [d1, Bool.true_and]
    by_cases h2 : a2 ≤ b2
    · have d2 : decide (a2 ≤ b2) = true := by simpa using h2
      rw [d2]
      go_enter Try.func43, Try.ntmps43
      go_wp2
      go_ret
      exact ⟨rfl, ((Ext.refl _).alloc _).alloc _⟩
    · have d2 : decide (a2 ≤ b2) = false := by simpa using h2
      rw [d2]
      go_enter Try.func43, Try.ntmps43
      go_wp2
      go_ret
      exact ⟨rfl, ((Ext.refl _).alloc _).alloc _⟩
  · have d1 : decide (a1 ≤ b1) = false := by simpa using h1
    rw [d1, Bool.false_and]
    go_enter Try.func43, Try.ntmps43
    go_wp2
    go_ret
    exact ⟨rfl, ((Ext.refl _).alloc _).alloc _⟩
end Go.Proofs.Ytcacicgkebcdkaa.Mo
namespace Go.Ox.Stab
open Go.Sort
variable {α : Type} [Inhabited α]
def swapR (a b : Nat) : Nat → Array α → Array α
  | 0, d => d
  | n + 1, d => swp (swapR a b n d) (a + n) (b + n)
theorem swapR_size (a b : Nat) : ∀ (n : Nat) (d : Array α), (swapR a b n d).size = d.size
  | 0, d => rfl
  | n + 1, d => by rw [swapR, swp_size, swapR_size a b n d]
theorem getAt {d : Array α} {i j : Nat} (h : i = j) : d[i]! = d[j]! := by rw [h]
theorem swapR_get {a b : Nat} : ∀ (n : Nat) (d : Array α), a + n ≤ b → b + n ≤ d.size → ∀ k,
    (swapR a b n d)[k]! = if a ≤ k ∧ k < a + n then d[k - a + b]! else if b ≤ k ∧ k < b + n then d[k - b + a]! else d[k]!
  | 0, d, _, _, k => by
    rw [swapR, if_neg (by omega), if_neg (by omega)]
  | n + 1, d, h1, h2, k => by
    rw [swapR, swp_get _ (by rw [swapR_size]; omega) (by rw [swapR_size]; omega)]
    rw [swapR_get n d (by omega) (by omega), swapR_get n d (by omega) (by omega), swapR_get n d (by omega) (by omega)]
    repeat' split
    all_goals first | exact getAt (by omega) | (exfalso; omega)
theorem swapR_perm {a b lo hi : Nat} : ∀ (n : Nat) (d : Array α), lo ≤ a → a + n ≤ hi → lo ≤ b → b + n ≤ hi → hi ≤ d.size → PermIn lo hi d (swapR a b n d)
  | 0, d, _, _, _, _, _ => permIn_refl d lo hi
  | n + 1, d, h1, h2, h3, h4, h5 => permIn_trans _ _ _ lo hi (swapR_perm n d h1 (by omega) h3 (by omega) h5) (swp_permIn _ lo hi _ _ (by omega) (by omega) (by omega) (by omega) (by rw [swapR_size]; exact h5))
def rotAt (lo m hi : Nat) (d : Array α) (k : Nat) : α :=
  if lo ≤ k ∧ k < lo + (hi - m) then d[k + (m - lo)]! else if lo + (hi - m) ≤ k ∧ k < hi then d[k - (hi - m)]! else d[k]!
theorem rotAt_same {lo m hi : Nat} {d : Array α} (h : lo = m ∨ m = hi) (h1 : lo ≤ m) (h2 : m ≤ hi) (k : Nat) : rotAt lo m hi d k = d[k]! := by
  unfold rotAt
  repeat' split
  all_goals first | rfl | exact getAt (by omega) | (exfalso; omega)
theorem rotAt_left {m i j : Nat} {d : Array α} (hi : i ≤ m) (hij : j < i) (hs : m + j ≤ d.size) (k : Nat) :
    rotAt (m - (i - j)) m (m + j) (swapR (m - i) m j d) k = rotAt (m - i) m (m + j) d k := by
  have g := swapR_get (a := m - i) (b := m) j d (by omega) hs
  unfold rotAt
  rw [g, g, g]
  repeat' split
  all_goals first | exact getAt (by omega) | (exfalso; omega)
theorem rotAt_right {m i j : Nat} {d : Array α} (hi : i ≤ m) (hij : i < j) (hs : m + j ≤ d.size) (k : Nat) :
    rotAt (m - i) m (m + (j - i)) (swapR (m - i) (m + j - i) i d) k = rotAt (m - i) m (m + j) d k := by
  have g := swapR_get (a := m - i) (b := m + j - i) i d (by omega) (by omega)
  unfold rotAt
  rw [g, g, g]
  repeat' split
  all_goals first | exact getAt (by omega) | (exfalso; omega)
theorem rotAt_both {m i : Nat} {d : Array α} (hi : i ≤ m) (hs : m + i ≤ d.size) (k : Nat) :
    (swapR (m - i) m i d)[k]! = rotAt (m - i) m (m + i) d k := by
  rw [swapR_get (a := m - i) (b := m) i d (by omega) hs]
  unfold rotAt
  repeat' split
  all_goals first | exact getAt (by omega) | (exfalso; omega)
variable {lt : α → α → Bool}
def SM (lt : α → α → Bool) (a m b : Nat) (d d' : Array α) : Prop := PermIn a b d d' ∧ (SortedIn lt a m d → SortedIn lt m b d → SortedIn lt a b d')
theorem SM.left (d : Array α) (a b : Nat) : SM lt a a b d d := ⟨permIn_refl d a b, fun _ h => h⟩
theorem SM.right (d : Array α) (a b : Nat) : SM lt a b b d d := ⟨permIn_refl d a b, fun h _ => h⟩
theorem SM.adj (hO : SWO lt) {a m b : Nat} {d : Array α} (h : m ≤ a ∨ b ≤ m ∨ lt d[m]! d[m - 1]! = false) : SM lt a m b d d := by
  refine ⟨permIn_refl d a b, fun h1 h2 i j hi hij hj => ?_⟩
  by_cases q1 : j < m
  · exact h1 i j hi hij q1
  · by_cases q2 : m ≤ i
    · exact h2 i j q2 hij hj
    · have h3 : lt d[m]! d[m - 1]! = false := by
        rcases h with h | h | h
        · omega
        · omega
        · exact h
      have h4 : lt d[m - 1]! d[i]! = false := by
        by_cases q : i = m - 1
        · subst q; exact hO.irrefl _
        · exact h1 i (m - 1) hi (by omega) (by omega)
      have h5 : lt d[j]! d[m]! = false := by
        by_cases q : j = m
        · subst q; exact hO.irrefl _
        · exact h2 m j (Nat.le_refl _) (by omega) hj
      exact hO.ntrans _ _ _ (hO.ntrans _ _ _ h5 h3) h4
theorem SM.join (hO : SWO lt) {a m b mid st en : Nat} {d d1 d2 d3 : Array α} (hs : b ≤ d.size) (h1 : a ≤ st) (h2 : st ≤ m) (h3 : m ≤ en) (h4 : en ≤ b) (h5 : st + en = mid + m)
    (hP : st = a ∨ en = b ∨ lt d[en]! d[st - 1]! = false) (hQ : st = m ∨ en = m ∨ lt d[en - 1]! d[st]! = true)
    (hd : ∀ k, d1[k]! = rotAt st m en d k) (hp1 : PermIn a b d d1) (hm1 : SM lt a st mid d1 d2) (hm2 : SM lt mid en b d2 d3) : SM lt a m b d d3 := by
  have s1 : d1.size = d.size := hp1.1
  have s2 : d2.size = d1.size := hm1.1.1
  have hp2 := permIn_mono d1 d2 a mid a b (Nat.le_refl _) (by omega) (by omega) hm1.1
  have hp3 := permIn_mono d2 d3 mid b a b (by omega) (Nat.le_refl _) (by omega) hm2.1
  refine ⟨permIn_trans _ _ _ a b (permIn_trans _ _ _ a b hp1 hp2) hp3, fun S1 S2 => ?_⟩
  have g1 : ∀ k, a ≤ k → k < st → d1[k]! = d[k]! := fun k hk1 hk2 => by rw [hd]; unfold rotAt; rw [if_neg (by omega), if_neg (by omega)]
  have g2 : ∀ k, st ≤ k → k < mid → d1[k]! = d[k + (m - st)]! := fun k hk1 hk2 => by rw [hd]; unfold rotAt; rw [if_pos (by omega)]
  have g3 : ∀ k, mid ≤ k → k < en → d1[k]! = d[k - (en - m)]! := fun k hk1 hk2 => by rw [hd]; unfold rotAt; rw [if_neg (by omega), if_pos (by omega)]
  have g4 : ∀ k, en ≤ k → d1[k]! = d[k]! := fun k hk1 => by rw [hd]; unfold rotAt; rw [if_neg (by omega), if_neg (by omega)]
  have hA : SortedIn lt a mid d2 := hm1.2 (fun i j hi hij hj => by rw [g1 i hi (by omega), g1 j (by omega) hj]; exact S1 i j hi hij (by omega))
    (fun i j hi hij hj => by rw [g2 i hi (by omega), g2 j (by omega) hj]; exact S2 _ _ (by omega) (by omega) (by omega))
  have e2 : ∀ k, mid ≤ k → d2[k]! = d1[k]! := fun k hk => hm1.1.2.1 k (.inr hk)
  have hB : SortedIn lt mid b d3 := hm2.2 (fun i j hi hij hj => by rw [e2 i hi, e2 j (by omega), g3 i hi (by omega), g3 j (by omega) hj]; exact S1 _ _ (by omega) (by omega) (by omega))
    (fun i j hi hij hj => by rw [e2 i (by omega), e2 j (by omega), g4 i hi, g4 j (by omega)]; exact S2 _ _ (by omega) hij hj)
  have e3 : ∀ k, k < mid → d3[k]! = d2[k]! := fun k hk => hm2.1.2.1 k (.inl hk)
  -- each of the first ones is at most each of the others
  have cross : ∀ i, a ≤ i → i < mid → ∀ j, mid ≤ j → j < b → lt d1[j]! d1[i]! = false := by
    intro i hi1 hi2 j hj1 hj2
    by_cases q1 : i < st
    · rw [g1 i hi1 q1]
      by_cases q2 : j < en
      · rw [g3 j hj1 q2]
        exact S1 _ _ hi1 (by omega) (by omega)
      · rw [g4 j (by omega)]
        have k1 : lt d[en]! d[st - 1]! = false := by
          rcases hP with h | h | h
          · omega
          · omega
          · exact h
        have k2 : lt d[st - 1]! d[i]! = false := by
          by_cases q : i = st - 1
          · subst q; exact hO.irrefl _
          · exact S1 i (st - 1) hi1 (by omega) (by omega)
        have k3 : lt d[j]! d[en]! = false := by
          by_cases q : j = en
          · subst q; exact hO.irrefl _
          · exact S2 en j h3 (by omega) hj2
        exact hO.ntrans _ _ _ (hO.ntrans _ _ _ k3 k1) k2
    · rw [g2 i (by omega) hi2]
      by_cases q2 : j < en
      · rw [g3 j hj1 q2]
        have k1 : lt d[en - 1]! d[st]! = true := by
          rcases hQ with h | h | h
          · omega
          · omega
          · exact h
        have k2 : lt d[j - (en - m)]! d[st]! = false := by
          by_cases q : j - (en - m) = st
          · rw [q]; exact hO.irrefl _
          · exact S1 st _ h1 (by omega) (by omega)
        have k3 : lt d[en - 1]! d[i + (m - st)]! = false := by
          by_cases q : i + (m - st) = en - 1
          · rw [q]; exact hO.irrefl _
          · exact S2 _ (en - 1) (by omega) (by omega) (by omega)
        exact hO.ntrans _ _ _ (hO.ntrans _ _ _ k2 (hO.asymmA k1)) k3
      · rw [g4 j (by omega)]
        exact S2 _ _ (by omega) (by omega) hj2
  have c2 : ∀ i, a ≤ i → i < mid → ∀ j, mid ≤ j → j < b → lt d2[j]! d2[i]! = false := by
    have := permIn_all d1 d2 a mid (fun x => ∀ j, mid ≤ j → j < b → lt d1[j]! x = false) (by omega) hm1.1 cross
    intro i hi1 hi2 j hj1 hj2
    rw [e2 j hj1]
    exact this i hi1 hi2 j hj1 hj2
  have c3 : ∀ j, mid ≤ j → j < b → ∀ i, a ≤ i → i < mid → lt d3[j]! d2[i]! = false :=
    permIn_all d2 d3 mid b (fun y => ∀ i, a ≤ i → i < mid → lt y d2[i]! = false) (by omega) hm2.1 (fun j hj1 hj2 i hi1 hi2 => c2 i hi1 hi2 j hj1 hj2)
  intro i j hi hij hj
  by_cases q1 : j < mid
  · rw [e3 i (by omega), e3 j q1]; exact hA i j hi hij q1
  · by_cases q2 : mid ≤ i
    · exact hB i j q2 hij hj
    · rw [e3 i (by omega)]
      exact c3 j (by omega) hj i hi (by omega)
def Runs (lt : α → α → Bool) (bs lo hi : Nat) (d : Array α) : Prop := ∀ i j, lo ≤ i → i < j → j < hi → i / bs = j / bs → lt d[j]! d[i]! = false
theorem div_lt_of {bs u i : Nat} (h0 : 0 < bs) (h : i < bs * u) : i / bs < u := by rw [Nat.div_lt_iff_lt_mul h0, Nat.mul_comm]; exact h
theorem div_ge_of {bs u i : Nat} (h0 : 0 < bs) (h : bs * u ≤ i) : u ≤ i / bs := by rw [Nat.le_div_iff_mul_le h0, Nat.mul_comm]; exact h
theorem div_at {bs u i : Nat} (h0 : 0 < bs) (h : bs * u ≤ i) (h2 : i < bs * u + bs) : i / bs = u := by
  have h1 := div_ge_of h0 h
  have h3 := div_lt_of (u := u + 1) h0 (by rw [Nat.mul_add]; omega : i < bs * (u + 1))
  omega
theorem Runs.more {bs u hi : Nat} {d d' : Array α} (h0 : 0 < bs) (h : Runs lt bs 0 (bs * u) d) (hh : hi ≤ bs * u + bs) (he : ∀ k, k < bs * u → d'[k]! = d[k]!) (hs : SortedIn lt (bs * u) hi d') : Runs lt bs 0 hi d' := by
  intro i j hi1 hij hj hq
  by_cases q1 : j < bs * u
  · rw [he i (by omega), he j q1]; exact h i j hi1 hij q1 hq
  · by_cases q2 : bs * u ≤ i
    · exact hs i j q2 hij hj
    · have h1 := div_lt_of h0 (by omega : i < bs * u)
      have h2 := div_ge_of h0 (by omega : bs * u ≤ j)
      omega
theorem Runs.sorted {bs u lo n hi : Nat} {d : Array α} (h0 : 0 < bs) (h : Runs lt bs lo n d) (hl : lo ≤ bs * u) (h1 : hi ≤ bs * u + bs) (h2 : hi ≤ n) : SortedIn lt (bs * u) hi d := fun i j hi hij hj =>
  h i j (by omega) hij (by omega) (by rw [div_at h0 hi (by omega), div_at h0 (by omega : bs * u ≤ j) (by omega)])
theorem Runs.all {bs n : Nat} {d : Array α} (h : Runs lt bs 0 n d) (hn : n ≤ bs) : SortedIn lt 0 n d := fun i j hi hij hj =>
  h i j hi hij hj (by rw [Nat.div_eq_of_lt (by omega), Nat.div_eq_of_lt (by omega)])
theorem Runs.keep {bs lo hi lo' hi' : Nat} {d d' : Array α} (h : Runs lt bs lo hi d) (h1 : lo ≤ lo') (h2 : hi' ≤ hi) (he : ∀ k, lo' ≤ k → k < hi' → d'[k]! = d[k]!) : Runs lt bs lo' hi' d' := fun i j hi hij hj hq => by
  rw [he i hi (by omega), he j (by omega) hj]
  exact h i j (by omega) hij (by omega) hq
theorem Runs.nil (bs : Nat) (d : Array α) : Runs lt bs 0 0 d := fun i j _ _ hj => by omega
end Go.Ox.Stab
