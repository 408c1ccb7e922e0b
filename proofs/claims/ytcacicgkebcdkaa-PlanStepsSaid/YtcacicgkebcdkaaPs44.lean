/-
  PlLawM, PlLawN, Box, GrArgs, MomArgs, packed: what the claim needs of them.
-/
import Derived.Test.YtcacicgkebcdkaaPs41
import Derived.Test.YtcacicgkebcdkaaPs37
import Derived.Test.YtcacicgkebcdkaaPs06
import Derived.Test.YtcacicgkebcdkaaPs17
import Derived.Test.YtcacicgkebcdkaaPs14
import Derived.Test.YtcacicgkebcdkaaPs11
import Derived.Test.YtcacicgkebcdkaaPs10
import Derived.Test.YtcacicgkebcdkaaPs07
import Derived.Test.YtcacicgkebcdkaaPs05
set_option linter.unusedVariables false
namespace Go.Ox.Pl
open Go.Ox.Gr Go.Proofs.Ytcacicgkebcdkaa Go.Proofs.Ytcacicgkebcdkaa.Mo
/-- where a place stands: ahead of the loop, in its body, behind it -/
def cl (n : Int) (p : P2) : Nat := if 0 ≤ p.2 then 1 else if p.1 < n then 0 else 2
theorem cl_top {n k : Int} : cl n (k, -1) = if k < n then 0 else 2 := by
  unfold cl; rw [if_neg (by simp)]
theorem cl_in {n k : Int} (j : Nat) : cl n (k, (j : Int)) = 1 := by
  unfold cl; rw [if_pos (by simp)]
/-- what an arc is like -/
structure ArcC (n : Int) (a : Ar) : Prop where
  up : cl n a.1.1 ≤ cl n a.1.2
  st : a.2.1 = true → cl n a.1.1 < cl n a.1.2 ∧ a.2.2 = 0
  one : a.2.1 = false → (cl n a.1.1 = 1 ↔ cl n a.1.2 = 1)
  add : a.2.2 ≠ 0 → a.2.2 = 1 ∧ a.2.1 = false ∧ cl n a.1.1 = 1 ∧ cl n a.1.2 = 1
  top : cl n a.1.1 = cl n a.1.2 → cl n a.1.1 ≠ 1 → a.1.1.1 < a.1.2.1
  fwd : cl n a.1.1 = 1 → cl n a.1.2 = 1 → a.2.2 = 0 → a.1.1.2 < a.1.2.2
theorem arcC {g : G} {a : Ar} (h : a ∈ arcsL g) : ArcC (loopAt g.1) a := by
  obtain ⟨l, out⟩ := g
  cases hok : gOk (l, out) with
  | false =>
    have h1 : gPl (l, out) = [] := by unfold gPl; rw [if_neg (by rw [hok]; simp)]
    have := (mem_arcsL.1 h).1
    rw [h1] at this; simp at this
  | true =>
    have hpl : gPl (l, out) = plFrom l 0 := by unfold gPl; rw [if_pos hok]; rfl
    rw [← mem_arcs0] at h
    unfold Arcs0 at h
    rw [List.mem_append, hpl, List.mem_flatMap] at h
    show ArcC (loopAt l) a
    rcases h with ⟨p, hp, hx⟩ | hx
    · unfold arcsP at hx
      obtain ⟨u, hu, he⟩ := List.mem_map.1 hx
      obtain ⟨h1, h2, h3⟩ := us_arc hok hp hu
      rw [h2] at he
      subst he
      rcases users_cls hok hp hu with ⟨k, m, hm, rfl, e, hkm, hin⟩ | ⟨k, n, m, hn, hm, rfl, hl, e, hkn, h11⟩ | ⟨k, j, m, hk, hm, rfl, e, hjm, hin⟩
      · rw [e]
        constructor
        · simp only [cl_top]; split <;> split <;> omega
        · simp
        · simp only [cl_top]; intro _; split <;> split <;> simp
        · simp
        · simp only [cl_top]; intro _ _; omega
        · simp only [cl_top]; intro h; split at h <;> omega
      · rw [e, hl]
        constructor
        · simp only [cl_top, cl_in]; split <;> omega
        · simp only [cl_top, cl_in]; intro _; rw [if_pos (by omega)]; simp
        · simp
        · simp
        · simp only [cl_top, cl_in]; intro h; split at h <;> omega
        · simp only [cl_top, cl_in]; intro h; split at h <;> omega
      · rw [e]
        constructor
        · simp only [cl_in]; omega
        · simp
          omega
        · simp only [cl_in]; simp
        · simp
        · simp only [cl_in]; simp
        · simp only [cl_in]; intro _ _ _; omega
    · unfold rndL at hx
      by_cases hB : loopB (l, out) = true
      · rw [if_pos hB] at hx
        obtain ⟨n, hn, i0, -, hln, hN, h9, hb1, hb2, hi, hin, hhd, hla, hi0, hin2⟩ := lp_of hB
        rw [hN] at hhd
        rw [hN, hhd, hln] at hx
        have hlast : (l[n].body.length : Int) - 1 = ((l[n].body.length - 1 : Nat) : Int) := by omega
        rw [mem_roundL, hlast] at hx
        rw [hln]
        have D : ∀ m : Nat, ArcC (n : Int) ((((n : Int), ((l[n].body.length - 1 : Nat) : Int)), ((n : Int), (m : Int))), (false, 1)) := by
          intro m
          constructor
          · simp only [cl_in]; omega
          · simp
          · simp only [cl_in]; simp
          · simp only [cl_in]; simp
          · simp only [cl_in]; simp
          · simp
        rcases hx with hx | ⟨v, hv, hx | hx⟩ | ⟨v, hv, hx⟩
        · subst hx
          constructor
          · simp only [cl_in, cl_top]; rw [if_neg (by omega)]; omega
          · simp only [cl_in, cl_top]; intro _; rw [if_neg (by omega)]; simp
          · simp
          · simp
          · simp only [cl_in, cl_top]; intro h; split at h <;> omega
          · simp only [cl_in, cl_top]; intro _ h; split at h <;> omega
        · obtain ⟨m, hm, e, h10⟩ := bgF_mem.1 hv
          rw [Nat.zero_add] at e
          subst e
          subst hx
          constructor
          · simp only [cl_in, cl_top]; split <;> omega
          · simp only [cl_in, cl_top]; intro _; rw [if_pos (by omega)]; simp
          · simp
          · simp
          · simp only [cl_in, cl_top]; intro h; split at h <;> omega
          · simp only [cl_in, cl_top]; intro h; split at h <;> omega
        · obtain ⟨m, hm, e, h10⟩ := bgF_mem.1 hv
          rw [Nat.zero_add] at e
          subst e
          subst hx
          exact D m
        · obtain ⟨m, hm, e, h10⟩ := bgF_mem.1 hv
          rw [Nat.zero_add] at e
          subst e
          subst hx
          exact D m
      · rw [if_neg hB] at hx; simp at hx
def fW (w : Wy) (m : Int) : Int := if w.1 = true then w.2 else m + w.2
theorem fW_thn (x a : Wy) (m : Int) : fW (thn x a) m = fW a (fW x m) := by
  unfold fW thn
  by_cases h : a.1 = true
  · rw [if_pos h, if_pos h, if_pos h]
  · rw [if_neg h, if_neg h]
    simp only
    split <;> omega
theorem fW_mono (w : Wy) {a b : Int} (h : a ≤ b) : fW w a ≤ fW w b := by
  unfold fW; split <;> omega
theorem fW_val : ∀ (ws : List Ar) (x : Wy) (m : Int), fW (val x ws) m = fW (val (false, 0) ws) (fW x m)
  | [], x, m => by show fW x m = fW (false, 0) (fW x m); unfold fW; simp
  | a :: r, x, m => by
    show fW (val (thn x a.2) r) m = fW (val (thn (false, 0) a.2) r) (fW x m)
    rw [fW_val r (thn x a.2) m, fW_val r (thn (false, 0) a.2) (fW x m), fW_thn, fW_thn]
    have : fW (false, 0) (fW x m) = fW x m := by unfold fW; simp
    rw [this]
/-- what the ways from p to v are like -/
structure Ty (n : Int) (p v : P2) (w : Wy) : Prop where
  up : cl n p ≤ cl n v
  st : w.1 = true → cl n p < cl n v
  one : cl n v = 1 → w.1 = decide (cl n p ≠ 1)
  zer : cl n v ≠ 1 → w.2 = 0
  pos : 0 ≤ w.2
theorem ty0 (n : Int) (p : P2) : Ty n p p (false, 0) := ⟨Nat.le_refl _, by simp, by intro h; simp [h], fun _ => rfl, Int.le_refl _⟩
theorem Ty.step {n : Int} {p : P2} {x : Wy} {a : Ar} (h : Ty n p a.1.1 x) (c : ArcC n a) : Ty n p a.1.2 (thn x a.2) := by
  obtain ⟨⟨u, v⟩, ⟨s, b⟩⟩ := a
  obtain ⟨h1, h2, h3, h4, h5⟩ := h
  obtain ⟨c1, c2, c3, c4, c5, c6⟩ := c
  simp only at *
  cases s with
  | true =>
    have c2 := c2 rfl
    obtain ⟨c2, c2'⟩ := c2
    subst c2'
    refine ⟨by omega, fun _ => by omega, ?_, ?_, ?_⟩
    · intro hv
      show true = _
      have : cl n p ≠ 1 := by omega
      simp [this]
    · intro _; rfl
    · exact Int.le_refl _
  | false =>
    have c3 := c3 rfl
    refine ⟨by omega, ?_, ?_, ?_, ?_⟩
    · intro e
      have := h2 e
      omega
    · intro hv
      show x.1 = _
      exact h3 (c3.2 hv)
    · intro hv
      have hu : cl n u ≠ 1 := fun e => hv (c3.1 e)
      have hb : b = 0 := by
        by_cases q : b = 0
        · exact q
        · exact absurd (c4 q).2.2.2 hv
      show x.2 + b = 0
      rw [h4 hu, hb]; rfl
    · show 0 ≤ x.2 + b
      have : 0 ≤ b := by
        by_cases q : b = 0
        · omega
        · have := (c4 q).1; omega
      omega
theorem Ty.walk {g : G} {p0 p : P2} : ∀ {ws : List Ar} {u v : P2} {x : Wy}, Ty (loopAt g.1) p u x → Wk (arcsL g) p0 u ws v → Ty (loopAt g.1) p v (val x ws)
  | [], u, v, x, h, hw => by
    have : u = v := hw
    subst this
    exact h
  | a :: r, u, v, x, h, hw => by
    obtain ⟨h1, h2, h3, h4⟩ := hw
    subst h2
    exact (h.step (arcC h1)).walk (ws := r) h4
theorem Ty.le_f {n : Int} {p v : P2} {x y : Wy} (hx : Ty n p v x) (hy : Ty n p v y) (h : le x y) {m : Int} (hm : 0 ≤ m) : fW x m ≤ fW y m := by
  rw [le_iff] at h
  unfold fW
  by_cases hv : cl n v = 1
  · rw [hx.one hv, hy.one hv]
    split <;> omega
  · have e1 := hx.zer hv
    have e2 := hy.zer hv
    rw [e1, e2]
    rcases h with h | ⟨h, h2⟩
    · omega
    · by_cases q : y.1 = true
      · rw [if_pos q, if_pos (h2 q)]; exact Int.le_refl _
      · rw [if_neg q]
        split <;> omega
theorem wayM_ty {g : G} (hn : (gPl g).length ≤ 20) {p : P2} (hp : p ∈ gPl g) {v : P2} {w : Wy} (h : wayM g p v = some w) : Ty (loopAt g.1) p v w := by
  obtain ⟨ws, hw, hv⟩ := (wayM_least hn hp).walk v w h
  rw [← hv]
  exact (ty0 _ p).walk hw
/-- along any arcs: the least way is as good -/
theorem any_walk {g : G} (hn : (gPl g).length ≤ 20) {p : P2} (hp : p ∈ gPl g) {q r : P2} : ∀ {ws : List Ar} {u : P2} {x y : Wy}, Ty (loopAt g.1) p u x → wayM g p u = some y → (∀ m, 0 ≤ m → fW y m ≤ fW x m) → Wk (arcsL g) q u ws r → ∃ z, wayM g p r = some z ∧ ∀ m, 0 ≤ m → fW z m ≤ fW (val x ws) m
  | [], u, x, y, ht, hy, hl, hw => by
    have : u = r := hw
    subst this
    exact ⟨y, hy, hl⟩
  | a :: s, u, x, y, ht, hy, hl, hw => by
    obtain ⟨h1, h2, h3, h4⟩ := hw
    subst h2
    have hc := arcC h1
    have ht' := ht.step hc
    by_cases hv : a.1.2 = p
    · refine any_walk hn hp (ws := s) (u := a.1.2) (x := thn x a.2) (y := (false, 0)) ht' (by rw [hv]; exact (wayM_least hn hp).self) (fun m hm => ?_) h4
      rw [hv] at ht'
      have e1 : (thn x a.2).1 = false := by
        cases q : (thn x a.2).1 with
        | false => rfl
        | true => have := ht'.st q; omega
      have e2 := ht'.pos
      unfold fW
      rw [e1]
      simp
      omega
    · obtain ⟨z, hz, hzl⟩ := (wayM_least hn hp).closed a h1 y hy hv
      refine any_walk hn hp (ws := s) (u := a.1.2) (x := thn x a.2) (y := z) ht' hz (fun m hm => ?_) h4
      have ty := (wayM_ty hn hp hy).step hc
      have := (wayM_ty hn hp hz).le_f ty hzl hm
      rw [fW_thn] at this
      rw [fW_thn]
      exact Int.le_trans this (fW_mono _ (hl m hm))
theorem way_trans {g : G} (hn : (gPl g).length ≤ 20) {p q r : P2} (hp : p ∈ gPl g) (hq : q ∈ gPl g) {x y : Wy} (h1 : wayM g p q = some x) (h2 : wayM g q r = some y) : ∃ z, wayM g p r = some z ∧ ∀ m, 0 ≤ m → fW z m ≤ fW y (fW x m) := by
  obtain ⟨ws, hw, hv⟩ := (wayM_least hn hq).walk r y h2
  obtain ⟨z, hz, hl⟩ := any_walk hn hp (wayM_ty hn hp h1) h1 (fun m _ => Int.le_refl _) hw
  refine ⟨z, hz, fun m hm => ?_⟩
  have := hl m hm
  rw [fW_val, hv] at this
  exact this
theorem walkM_ok {w : Wy} {m : Mom.M} : (walkM w m).2 = 0 ↔ 0 ≤ w.2 ∧ w.2 < 65536 ∧ Mom.ok m = true ∧ Mom.ok (m.1, fW w m.2) = true := by
  have e : stepM w m = (m.1, fW w m.2) := by
    unfold stepM fW
    split <;> simp
  unfold walkM
  rw [e]
  constructor
  · intro h
    split at h
    · simp at h
    · split at h
      · simp at h
      · split at h
        · simp at h
        · rename_i h1 h2 h3
          unfold okW at h1
          simp at h1
          exact ⟨h1.1, h1.2, by simpa using h2, by simpa using h3⟩
  · rintro ⟨h1, h2, h3, h4⟩
    have : okW w = true := by unfold okW; simp [h1, h2]
    rw [if_neg (by rw [this]; simp), if_neg (by rw [h3]; simp), if_neg (by rw [h4]; simp)]
theorem walkM_val {w : Wy} {m : Mom.M} (h : (walkM w m).2 = 0) : (walkM w m).1 = (m.1, fW w m.2) := by
  have e : stepM w m = (m.1, fW w m.2) := by
    unfold stepM fW
    split <;> simp
  obtain ⟨h1, h2, h3, h4⟩ := walkM_ok.1 h
  unfold walkM
  rw [e]
  have : okW w = true := by unfold okW; simp [h1, h2]
  rw [if_neg (by rw [this]; simp), if_neg (by rw [h3]; simp), if_neg (by rw [h4]; simp)]
end Go.Ox.Pl
set_option linter.unusedVariables false
namespace Go.Ox.Pl
open Go.Ox.Gr Go.Proofs.Ytcacicgkebcdkaa Go.Proofs.Ytcacicgkebcdkaa.Mo
theorem leadsW_iff {w : Wy} {m n : Mom.M} : leadsW (some w) m n = true ↔ Mom.ok n = true ∧ (walkM w m).2 = 0 ∧ m.1 ≤ n.1 ∧ fW w m.2 ≤ n.2 := by
  unfold leadsW
  simp only [Bool.and_eq_true, decide_eq_true_eq]
  constructor
  · rintro ⟨h1, h2, h3⟩
    rw [walkM_val h2] at h3
    unfold Mom.ahead at h3
    simp only [Bool.and_eq_true, decide_eq_true_eq] at h3
    exact ⟨h1, h2, h3⟩
  · rintro ⟨h1, h2, h3⟩
    refine ⟨h1, h2, ?_⟩
    rw [walkM_val h2]
    unfold Mom.ahead
    simp only [Bool.and_eq_true, decide_eq_true_eq]
    exact h3
theorem wayO_some {g : G} {p q : P2} {w : Wy} (h : wayO g p q = some w) : p ∈ gPl g ∧ q ∈ gPl g ∧ wayM g p q = some w := by
  unfold wayO at h
  split at h
  · rename_i hc
    exact ⟨nd_pl hc.1, nd_pl hc.2, h⟩
  · cases h
theorem pl_nd {g : G} {p : P2} (h : p ∈ gPl g) : (gNd g p).isSome = true := by
  unfold gPl at h
  split at h
  · rename_i hok
    exact (gNd_places hok).2 h
  · simp at h
theorem wayO_pl {g : G} {p q : P2} (hp : p ∈ gPl g) (hq : q ∈ gPl g) : wayO g p q = wayM g p q := by
  unfold wayO; rw [if_pos ⟨pl_nd hp, pl_nd hq⟩]
theorem ok_iff {m : Mom.M} : Mom.ok m = true ↔ 0 ≤ m.1 ∧ m.1 < 65536 ∧ 0 ≤ m.2 ∧ m.2 < 65536 := by
  unfold Mom.ok
  simp only [Bool.and_eq_true, decide_eq_true_eq]
  omega
/-- what can lead to what can lead to a third can lead to that -/
theorem leads_trans {g : G} (hn : (gPl g).length ≤ 20) {p q r : P2} {a b c : Mom.M} (h1 : leadsB g p a q b = true) (h2 : leadsB g q b r c = true) : leadsB g p a r c = true := by
  unfold leadsB at *
  cases e1 : wayO g p q with
  | none => rw [e1] at h1; cases h1
  | some x =>
    cases e2 : wayO g q r with
    | none => rw [e2] at h2; cases h2
    | some y =>
      rw [e1] at h1
      rw [e2] at h2
      obtain ⟨hp, hq, w1⟩ := wayO_some e1
      obtain ⟨-, hr, w2⟩ := wayO_some e2
      obtain ⟨z, hz, hl⟩ := way_trans hn hp hq w1 w2
      rw [wayO_pl hp hr, hz]
      rw [leadsW_iff] at h1 h2 ⊢
      obtain ⟨a1, a2, a3, a4⟩ := h1
      obtain ⟨b1, b2, b3, b4⟩ := h2
      rw [walkM_ok] at a2 b2 ⊢
      obtain ⟨a5, a6, a7, a8⟩ := a2
      obtain ⟨b5, b6, b7, b8⟩ := b2
      simp only [ok_iff] at *
      obtain ⟨z1, z2, z3⟩ := (wayM_inv hn hp).bnd r z hz
      have z4 := cnt_le (gPl g) (wayM g p)
      have l1 := hl a.2 a7.2.2.1
      have l2 := fW_mono y a4
      have l3 : 0 ≤ fW z a.2 := by unfold fW; split <;> omega
      exact ⟨b1, ⟨z2, by omega, a7, a7.1, a7.2.1, l3, by omega⟩, by omega, by omega⟩
end Go.Ox.Pl
namespace Go.Ox
open Go.RowKit
def allocs (w : World) : List (Array Value × TypeId) → World
  | [] => w
  | x :: r => allocs (w.alloc (.cells x.1 x.2)) r
theorem allocs_ext : ∀ (bs : List (Array Value × TypeId)) (w : World), Ext w (allocs w bs)
  | [], w => Ext.refl w
  | x :: r, w => ((Ext.refl w).alloc (.cells x.1 x.2)).trans (allocs_ext r _)
theorem allocs_at : ∀ (bs : List (Array Value × TypeId)) (w : World) (k : Nat) (cs : Array Value) (t : TypeId), bs[k]? = some (cs, t) → Blk (allocs w bs) (w.heap.size + k) t cs
  | [], w, k, cs, t, h => by simp at h
  | x :: r, w, 0, cs, t, h => by
    simp only [List.getElem?_cons_zero, Option.some.injEq] at h
    subst h
    exact (Blk.new w t cs).ext (allocs_ext r _)
  | x :: r, w, k + 1, cs, t, h => by
    have := allocs_at r (w.alloc (.cells x.1 x.2)) k cs t (by simpa using h)
    have e : (w.alloc (.cells x.1 x.2)).heap.size + k = w.heap.size + (k + 1) := by simp; omega
    rw [e] at this
    exact this
end Go.Ox
namespace Go.Proofs.Ytcacicgkebcdkaa
open Go.RowKit Go.Ox Go.Ox.Gr Go.ChangeShapes Go.WideShapes
set_option linter.unusedVariables false
section
variable {H : Type} {enc : TypeId × Value → H} {W : World} {base : Nat} {sp : Nat → Bool} {held : Bool} {v u : Value} {d : DataW H} {p : List MemPlace} {r : Reach} {b0 N : Nat}
theorem ints_eV {R : TypeId → Value → Prop} : ∀ (rows : List (List Value)), (∀ x ∈ rows, rowT R [.int .i64] x) → ∃ l : List Int, rows.length = l.length ∧ rows.flatten = eV l
  | [], _ => ⟨[], rfl, rfl⟩
  | r :: rows, h => by
    obtain ⟨l, h1, h2⟩ := ints_eV rows fun x hx => h x (List.mem_cons_of_mem _ hx)
    obtain ⟨n, cs, rfl, _, hr⟩ := rowT_int (h r (List.mem_cons_self ..))
    obtain rfl := rowT_nil hr
    exact ⟨n :: l, by simp [h1], by rw [List.flatten_cons, h2]; rfl⟩
set_option maxRecDepth 100000 in
theorem ints_of_was (h : Was enc Try.prog W base sp held N 41 u) : ∃ l : List Int, RE W u l := by
  obtain ⟨rows, hr, -, hx⟩ := Was.rows (n := 8) (ks := [.int .i64]) Try.underlying41 (by kernel_rfl) (by kernel_rfl) (by decide) h
  obtain ⟨l, h1, h2⟩ := ints_eV rows hx
  rw [h1, h2] at hr
  exact ⟨l, RE.mk hr⟩
set_option maxRecDepth 100000 in
theorem nodes_of_was : ∀ (N : Nat) (u : Value), Was enc Try.prog W base sp held N 22 u → ∃ l : List Nd, NodesR N W u l := by
  intro N
  induction N with
  | zero =>
    intro u h
    obtain ⟨rows, hr, h0, hx⟩ := Was.rows (n := 8) (ks := [.int .i64, .cell 41, .int .i64, .int .i64, .int .i64, .cell 22]) Try.underlying22 (by kernel_rfl) (by kernel_rfl) (by decide) h
    obtain rfl : rows = [] := h0.elim id fun h => absurd h (Nat.lt_irrefl _)
    exact ⟨[], ⟨[], hr, rfl, fun i r x hr => by simp at hr⟩⟩
  | succ N ih =>
    intro u h
    obtain ⟨rows, hr, h0, hx⟩ := Was.rows (n := 8) (ks := [.int .i64, .cell 41, .int .i64, .int .i64, .int .i64, .cell 22]) Try.underlying22 (by kernel_rfl) (by kernel_rfl) (by decide) h
    have each : ∀ r ∈ rows, r.length = 6 ∧ ∃ x : Nd, NdQ (NodesR N) W r x := fun r hr2 => by
      have hr := hx r hr2
      refine ⟨rowT_len hr, ?_⟩
      obtain ⟨op, cs, rfl, _, hr⟩ := rowT_int hr
      obtain ⟨u1, cs, rfl, hu1, hr⟩ := rowT_cell hr
      obtain ⟨kind, cs, rfl, _, hr⟩ := rowT_int hr
      obtain ⟨fa, cs, rfl, _, hr⟩ := rowT_int hr
      obtain ⟨a, cs, rfl, _, hr⟩ := rowT_int hr
      obtain ⟨u2, cs, rfl, hu2, hr⟩ := rowT_cell hr
      obtain rfl := rowT_nil hr
      obtain ⟨ins, hins⟩ := ints_of_was hu1
      obtain ⟨body, hbody⟩ := ih _ hu2
      exact ⟨.mk op ins kind fa a body, u1, u2, rfl, hins, hbody⟩
    obtain ⟨l, hl⟩ := RS.of_rows hr each
    exact ⟨l, NodesR.of_rs hl⟩
/-- a graph that came in -/
abbrev GArg := (Value × Nat) × G
set_option maxRecDepth 100000 in
theorem graphArg (hv : Value.okWide Try.prog W r b0 24 v) (h : DataW.Trod enc Try.prog W base sp held 24 v d p) :
    ∃ x : GArg, v = gAg x.1.1 x.2.2 ∧ NodesR x.1.2 W x.1.1 x.2.1 := by
  obtain ⟨cs, N, rfl, hr⟩ := struct_of_trodT (n := 8) (ks := [.cell 22, .int .i64]) (by kernel_rfl) Try.underlying24 hv h
  obtain ⟨u, cs, rfl, hu, hr⟩ := rowT_cell hr
  obtain ⟨out, cs, rfl, _, hr⟩ := rowT_int hr
  obtain rfl := rowT_nil hr
  obtain ⟨l, hl⟩ := nodes_of_was N u hu
  exact ⟨((u, N), l, out), rfl, hl⟩
set_option maxRecDepth 100000 in
theorem placeArg (hv : Value.okWide Try.prog W r b0 26 v) (h : DataW.Trod enc Try.prog W base sp held 26 v d p) :
    ∃ x : Pl, v = plV x := by
  obtain ⟨cs, N, rfl, hr⟩ := struct_of_trodT (n := 8) (ks := [.int .i64, .int .i64]) (by kernel_rfl) Try.underlying26 hv h
  obtain ⟨a, cs, rfl, _, hr⟩ := rowT_int hr
  obtain ⟨b, cs, rfl, _, hr⟩ := rowT_int hr
  obtain rfl := rowT_nil hr
  exact ⟨(a, b), rfl⟩
end
end Go.Proofs.Ytcacicgkebcdkaa
namespace Go.Proofs.Ytcacicgkebcdkaa.Mo
open Go.RowKit Go.Ox Go.ChangeShapes Go.WideShapes
section
variable {H : Type} {enc : TypeId × Value → H} {W : World} {base : Nat} {sp : Nat → Bool} {held : Bool} {v : Value} {d : DataW H} {p : List MemPlace} {r : Reach} {b0 : Nat}
set_option maxRecDepth 100000 in
theorem momArg (hv : Value.okWide Try.prog W r b0 48 v) (h : DataW.Trod enc Try.prog W base sp held 48 v d p) :
    ∃ x : Mom.M, v = mV x := by
  obtain ⟨cs, rfl, hr⟩ := struct_of_trod (n := 8) (ks := [.int .i64, .int .i64]) (by kernel_rfl) Try.underlying48 hv h
  obtain ⟨n, cs, rfl, _, hr⟩ := rowOk_int hr
  obtain ⟨m, cs, rfl, _, hr⟩ := rowOk_int hr
  obtain rfl := rowOk_nil hr
  exact ⟨(n, m), rfl⟩
end
end Go.Proofs.Ytcacicgkebcdkaa.Mo
