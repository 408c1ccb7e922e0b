/-
  PlLawM, PlRefW, PlLawN, Box, GrArgs, GrFnR, GrRefI, packed: what the claim needs of them.
-/
import Derived.Test.YtcacicgkebcdkaaPe37
import Derived.Test.YtcacicgkebcdkaaPe33
import Derived.Test.YtcacicgkebcdkaaPe38
import Derived.Test.YtcacicgkebcdkaaPe06
import Derived.Test.YtcacicgkebcdkaaPe16
import Derived.Test.YtcacicgkebcdkaaPe13
import Derived.Test.YtcacicgkebcdkaaPe10
import Derived.Test.YtcacicgkebcdkaaPe11
set_option linter.unusedSimpArgs false
set_option linter.unusedVariables false
set_option maxRecDepth 100000
namespace Go.Ox.Pl
open Go.Ox.Gr Go.Proofs.Ytcacicgkebcdkaa Go.Proofs.Ytcacicgkebcdkaa.Mo
def cl (n : Int) (p : P2) : Nat := if 0 ≤ p.2 then 1 else if p.1 < n then 0 else 2
theorem cl_top {n k : Int} : cl n (k, -1) = if k < n then 0 else 2 := by
  unfold cl; rw [if_neg (by simp)]
theorem cl_in {n k : Int} (j : Nat) : cl n (k, (j : Int)) = 1 := by
  unfold cl; rw [if_pos (by simp)]
structure ArcC (n : Int) (a : Ar) : Prop where
  up : cl n a.1.1 ≤ cl n a.1.2
  st : a.2.1 = true → cl n a.1.1 < cl n a.1.2 ∧ a.2.2 = 0
  one : a.2.1 = false → (cl n a.1.1 = 1 ↔ cl n a.1.2 = 1)
  add : a.2.2 ≠ 0 → a.2.2 = 1 ∧ a.2.1 = false ∧ cl n a.1.1 = 1 ∧ cl n a.1.2 = 1
  top : cl n a.1.1 = cl n a.1.2 → cl n a.1.1 ≠ 1 → a.1.1.1 < a.1.2.1
  fwd : cl n a.1.1 = 1 → cl n a.1.2 = 1 → a.2.2 = 0 → a.1.1.2 < a.1.2.2
theorem arcC {g : G} {a : Ar} (h : a ∈ arcsL g) : ArcC (loopAt g.1) a := by
  obtain ⟨l, out⟩ := g
  cases hok : gOk (l, out) with
  | false =>
    have h1 : gPl (l, out) = [] := by unfold gPl; rw [if_neg (by rw [hok]; simp)]
    have := (mem_arcsL.1 h).1
    rw [h1] at this; simp at this
  | true =>
    have hpl : gPl (l, out) = plFrom l 0 := by unfold gPl; rw [if_pos hok]; rfl
    rw [← mem_arcs0] at h
    unfold Arcs0 at h
    rw [List.mem_append, hpl, List.mem_flatMap] at h
    show ArcC (loopAt l) a
    rcases h with ⟨p, hp, hx⟩ | hx
    · unfold arcsP at hx
      obtain ⟨u, hu, he⟩ := List.mem_map.1 hx
      obtain ⟨h1, h2, h3⟩ := us_arc hok hp hu
      rw [h2] at he
      subst he
      rcases users_cls hok hp hu with ⟨k, m, hm, rfl, e, hkm, hin⟩ | ⟨k, n, m, hn, hm, rfl, hl, e, hkn, h11⟩ | ⟨k, j, m, hk, hm, rfl, e, hjm, hin⟩
      · rw [e]
        constructor
        · simp only [cl_top]; split <;> split <;> omega
        · simp
        · simp only [cl_top]; intro _; split <;> split <;> simp
        · simp
        · simp only [cl_top]; intro _ _; omega
        · simp only [cl_top]; intro h; split at h <;> omega
      · rw [e, hl]
        constructor
        · simp only [cl_top, cl_in]; split <;> omega
        · simp only [cl_top, cl_in]; intro _; rw [if_pos (by omega)]; simp
        · simp
        · simp
        · simp only [cl_top, cl_in]; intro h; split at h <;> omega
        · simp only [cl_top, cl_in]; intro h; split at h <;> omega
      · rw [e]
        constructor
        · simp only [cl_in]; omega
        · simp
          omega
        · simp only [cl_in]; simp
        · simp
        · simp only [cl_in]; simp
        · simp only [cl_in]; intro _ _ _; omega
    · unfold rndL at hx
      by_cases hB : loopB (l, out) = true
      · rw [if_pos hB] at hx
        obtain ⟨n, hn, i0, -, hln, hN, h9, hb1, hb2, hi, hin, hhd, hla, hi0, hin2⟩ := lp_of hB
        rw [hN] at hhd
        rw [hN, hhd, hln] at hx
        have hlast : (l[n].body.length : Int) - 1 = ((l[n].body.length - 1 : Nat) : Int) := by omega
        rw [mem_roundL, hlast] at hx
        rw [hln]
        have D : ∀ m : Nat, ArcC (n : Int) ((((n : Int), ((l[n].body.length - 1 : Nat) : Int)), ((n : Int), (m : Int))), (false, 1)) := by
          intro m
          constructor
          · simp only [cl_in]; omega
          · simp
          · simp only [cl_in]; simp
          · simp only [cl_in]; simp
          · simp only [cl_in]; simp
          · simp
        rcases hx with hx | ⟨v, hv, hx | hx⟩ | ⟨v, hv, hx⟩
        · subst hx
          constructor
          · simp only [cl_in, cl_top]; rw [if_neg (by omega)]; omega
          · simp only [cl_in, cl_top]; intro _; rw [if_neg (by omega)]; simp
          · simp
          · simp
          · simp only [cl_in, cl_top]; intro h; split at h <;> omega
          · simp only [cl_in, cl_top]; intro _ h; split at h <;> omega
        · obtain ⟨m, hm, e, h10⟩ := bgF_mem.1 hv
          rw [Nat.zero_add] at e
          subst e
          subst hx
          constructor
          · simp only [cl_in, cl_top]; split <;> omega
          · simp only [cl_in, cl_top]; intro _; rw [if_pos (by omega)]; simp
          · simp
          · simp
          · simp only [cl_in, cl_top]; intro h; split at h <;> omega
          · simp only [cl_in, cl_top]; intro h; split at h <;> omega
        · obtain ⟨m, hm, e, h10⟩ := bgF_mem.1 hv
          rw [Nat.zero_add] at e
          subst e
          subst hx
          exact D m
        · obtain ⟨m, hm, e, h10⟩ := bgF_mem.1 hv
          rw [Nat.zero_add] at e
          subst e
          subst hx
          exact D m
      · rw [if_neg hB] at hx; simp at hx
structure Ty (n : Int) (p v : P2) (w : Wy) : Prop where
  up : cl n p ≤ cl n v
  st : w.1 = true → cl n p < cl n v
  one : cl n v = 1 → w.1 = decide (cl n p ≠ 1)
  zer : cl n v ≠ 1 → w.2 = 0
  pos : 0 ≤ w.2
theorem Ty.step {n : Int} {p : P2} {x : Wy} {a : Ar} (h : Ty n p a.1.1 x) (c : ArcC n a) : Ty n p a.1.2 (thn x a.2) := by
  obtain ⟨⟨u, v⟩, ⟨s, b⟩⟩ := a
  obtain ⟨h1, h2, h3, h4, h5⟩ := h
  obtain ⟨c1, c2, c3, c4, c5, c6⟩ := c
  simp only at *
  cases s with
  | true =>
    have c2 := c2 rfl
    obtain ⟨c2, c2'⟩ := c2
    subst c2'
    refine ⟨by omega, fun _ => by omega, ?_, ?_, ?_⟩
    · intro hv
      show true = _
      have : cl n p ≠ 1 := by omega
      simp [this]
    · intro _; rfl
    · exact Int.le_refl _
  | false =>
    have c3 := c3 rfl
    refine ⟨by omega, ?_, ?_, ?_, ?_⟩
    · intro e
      have := h2 e
      omega
    · intro hv
      show x.1 = _
      exact h3 (c3.2 hv)
    · intro hv
      have hu : cl n u ≠ 1 := fun e => hv (c3.1 e)
      have hb : b = 0 := by
        by_cases q : b = 0
        · exact q
        · exact absurd (c4 q).2.2.2 hv
      show x.2 + b = 0
      rw [h4 hu, hb]; rfl
    · show 0 ≤ x.2 + b
      have : 0 ≤ b := by
        by_cases q : b = 0
        · omega
        · have := (c4 q).1; omega
      omega
theorem Ty.walk {g : G} {p0 p : P2} : ∀ {ws : List Ar} {u v : P2} {x : Wy}, Ty (loopAt g.1) p u x → Wk (arcsL g) p0 u ws v → Ty (loopAt g.1) p v (val x ws)
  | [], u, v, x, h, hw => by
    have : u = v := hw
    subst this
    exact h
  | a :: r, u, v, x, h, hw => by
    obtain ⟨h1, h2, h3, h4⟩ := hw
    subst h2
    exact (h.step (arcC h1)).walk (ws := r) h4
end Go.Ox.Pl
namespace Go.Ox.Pl
open Go.Ox.Gr Go.Proofs.Ytcacicgkebcdkaa
theorem gPl_nodup (g : G) : (gPl g).Nodup := (gPl_sorted g).imp fun {a b} h e => by subst e; unfold plt at h; omega
end Go.Ox.Pl
namespace Go.Proofs.Ytcacicgkebcdkaa
open Go.RowKit Go.Ox Go.Ox.Gr Mo
theorem ndInj {l : List Pl.P2} (h : l.Nodup) {i j : Nat} {hi : i < l.length} {hj : j < l.length} (e : l[i] = l[j]) : i = j := by
  rcases Nat.lt_trichotomy i j with q | q | q
  · exact absurd e (List.pairwise_iff_getElem.1 h i j hi hj q)
  · exact q
  · exact absurd e.symm (List.pairwise_iff_getElem.1 h j i hj hi q)
structure WS2 (w : World) (bh bw : Nat) (PL : List Pl.P2) (M : Pl.Mp) : Prop where
  ha : ∃ cur, Blk w bh 4 cur ∧ cur.size = PL.length ∧ ∀ j (hj : j < PL.length), cur[j]? = some (.bool (M PL[j]).isSome)
  wa : ∃ cur, Blk w bw 37 cur ∧ cur.size = PL.length * 2 ∧ ∀ j (hj : j < PL.length), cur[j * 2]? = some (.bool ((M PL[j]).getD (false, 0)).1) ∧ cur[j * 2 + 1]? = some (.int .i64 ((M PL[j]).getD (false, 0)).2)
theorem WS2.ext {w w' : World} {bh bw : Nat} {PL : List Pl.P2} {M : Pl.Mp} (h : WS2 w bh bw PL M) (he : Ext w w') : WS2 w' bh bw PL M := by
  obtain ⟨⟨c1, h1, h2⟩, c2, h3, h4⟩ := h
  exact ⟨⟨c1, h1.ext he, h2⟩, c2, h3.ext he, h4⟩
theorem WS2.lt {w : World} {bh bw : Nat} {PL : List Pl.P2} {M : Pl.Mp} (h : WS2 w bh bw PL M) : bh < w.heap.size ∧ bw < w.heap.size := by
  obtain ⟨⟨c1, h1, h2⟩, c2, h3, h4⟩ := h
  exact ⟨h1.lt, h3.lt⟩
theorem WS2.get {w : World} {bh bw : Nat} {PL : List Pl.P2} {M : Pl.Mp} (h : WS2 w bh bw PL M) {j : Nat} (hj : j < PL.length) {x : Pl.P2} (hx : PL[j] = x) :
    w.cell? ⟨bh, j, none⟩ = some (.bool (M x).isSome) ∧ w.cell? ⟨bw, j * 2, none⟩ = some (.bool ((M x).getD (false, 0)).1) ∧ w.cell? ⟨bw, j * 2 + 1, none⟩ = some (.int .i64 ((M x).getD (false, 0)).2) ∧
    w.frozen? ⟨bh, j, none⟩ = false ∧ w.frozen? ⟨bw, j * 2, none⟩ = false ∧ w.frozen? ⟨bw, j * 2 + 1, none⟩ = false := by
  obtain ⟨⟨c1, h1, h2, h3⟩, c2, h4, h5, h6⟩ := h
  subst hx
  exact ⟨(h1.cell j).trans (h3 j hj), (h4.cell _).trans (h6 j hj).1, (h4.cell _).trans (h6 j hj).2, h1.frozen _, h4.frozen _, h4.frozen _⟩
theorem WS2.put {w : World} {bh bw : Nat} {PL : List Pl.P2} {M : Pl.Mp} (h : WS2 w bh bw PL M) (hne : bh ≠ bw) (hnd : PL.Nodup) {j : Nat} (hj : j < PL.length) {x : Pl.P2} (hx : PL[j] = x) (n : Pl.Wy) :
    WS2 (((w.setCell ⟨bh, j, none⟩ (.bool true)).setCell ⟨bw, j * 2, none⟩ (.bool n.1)).setCell ⟨bw, j * 2 + 1, none⟩ (.int .i64 n.2)) bh bw PL (Pl.upd M x n) ∧
    WS2 (((w.setCell ⟨bw, j * 2, none⟩ (.bool n.1)).setCell ⟨bw, j * 2 + 1, none⟩ (.int .i64 n.2)).setCell ⟨bh, j, none⟩ (.bool true)) bh bw PL (Pl.upd M x n) := by
  obtain ⟨⟨c1, h1, h2, h3⟩, c2, h4, h5, h6⟩ := h
  have hh : ∀ i (hi : i < PL.length), (c1.setIfInBounds j (.bool true))[i]? = some (.bool (Pl.upd M x n PL[i]).isSome) := by
    intro i hi
    rw [Array.getElem?_setIfInBounds]
    by_cases e : j = i
    · subst e
      rw [if_pos rfl, if_pos (by omega), hx, Pl.upd_at]; rfl
    · rw [if_neg e, h3 i hi]
      have hne : PL[i] ≠ x := fun q => e ((ndInj hnd) (hx.trans q.symm))
      rw [Pl.upd_ne M n hne]
  have hw : ∀ i (hi : i < PL.length), ((c2.setIfInBounds (j * 2) (.bool n.1)).setIfInBounds (j * 2 + 1) (.int .i64 n.2))[i * 2]? = some (.bool ((Pl.upd M x n PL[i]).getD (false, 0)).1) ∧ ((c2.setIfInBounds (j * 2) (.bool n.1)).setIfInBounds (j * 2 + 1) (.int .i64 n.2))[i * 2 + 1]? = some (.int .i64 ((Pl.upd M x n PL[i]).getD (false, 0)).2) := by
    intro i hi
    rw [Array.getElem?_setIfInBounds, Array.getElem?_setIfInBounds, Array.getElem?_setIfInBounds, Array.getElem?_setIfInBounds]
    by_cases e : j = i
    · subst e
      rw [if_neg (by omega), if_pos rfl, if_pos (by omega), if_pos rfl, if_pos (by rw [Array.size_setIfInBounds]; omega), hx, Pl.upd_at]
      exact ⟨rfl, rfl⟩
    · have hne : PL[i] ≠ x := fun q => e ((ndInj hnd) (hx.trans q.symm))
      rw [if_neg (by omega), if_neg (by omega), if_neg (by omega), if_neg (by omega), Pl.upd_ne M n hne]
      exact h6 i hi
  refine ⟨⟨⟨_, ((h1.set_ j _).far (p := ⟨bw, j * 2, none⟩) hne _).far (p := ⟨bw, j * 2 + 1, none⟩) hne _, by rw [Array.size_setIfInBounds]; exact h2, hh⟩, _, ((h4.far (p := ⟨bh, j, none⟩) (Ne.symm hne) _).set_ (j * 2) _).set_ (j * 2 + 1) _, by rw [Array.size_setIfInBounds, Array.size_setIfInBounds]; exact h5, hw⟩,
    ⟨⟨_, ((h1.far (p := ⟨bw, j * 2, none⟩) hne _).far (p := ⟨bw, j * 2 + 1, none⟩) hne _).set_ j _, by rw [Array.size_setIfInBounds]; exact h2, hh⟩, _, ((h4.set_ (j * 2) _).set_ (j * 2 + 1) _).far (p := ⟨bh, j, none⟩) (Ne.symm hne) _, by rw [Array.size_setIfInBounds, Array.size_setIfInBounds]; exact h5, hw⟩⟩
theorem WS2.mark {w : World} {bh bw : Nat} {PL : List Pl.P2} {M M' : Pl.Mp} (h : WS2 w bh bw PL M) (hne : bh ≠ bw) (hnd : PL.Nodup) {j : Nat} (hj : j < PL.length) {x : Pl.P2} (hx : PL[j] = x) {b : Bool} (h1 : (M' x).isSome = b) (h2 : (M' x).getD (false, 0) = (M x).getD (false, 0)) (h3 : ∀ q, q ∈ PL → q ≠ x → M' q = M q) :
    WS2 (w.setCell ⟨bh, j, none⟩ (.bool b)) bh bw PL M' := by
  obtain ⟨⟨c1, g1, g2, g3⟩, c2, g4, g5, g6⟩ := h
  refine ⟨⟨_, g1.set_ j _, by rw [Array.size_setIfInBounds]; exact g2, fun i hi => ?_⟩, _, g4.far (p := ⟨bh, j, none⟩) (Ne.symm hne) _, g5, fun i hi => ?_⟩
  · rw [Array.getElem?_setIfInBounds]
    by_cases e : j = i
    · subst e
      rw [if_pos rfl, if_pos (by omega), hx, h1]
    · rw [if_neg e, g3 i hi, h3 _ (List.getElem_mem hi) (fun q => e ((ndInj hnd) (hx.trans q.symm)))]
  · by_cases e : j = i
    · subst e
      rw [hx, h2, ← hx]
      exact g6 j hi
    · rw [h3 _ (List.getElem_mem hi) (fun q => e ((ndInj hnd) (hx.trans q.symm)))]
      exact g6 i hi
theorem Ext.put {w0 w : World} (h : Ext w0 w) {b o : Nat} {s : Option Nat} (hb : w0.heap.size ≤ b) (u : Value) : Ext w0 (w.setCell ⟨b, o, s⟩ u) :=
  h.andQ ((ExtQ.refl (fun k => k = b) w).setCell (p := ⟨b, o, s⟩) rfl u) (fun k hk => by omega)
end Go.Proofs.Ytcacicgkebcdkaa
namespace Go.Ox.Pl
open Go.Ox.Gr Go.Proofs.Ytcacicgkebcdkaa Go.Proofs.Ytcacicgkebcdkaa.Mo
theorem pl_nd {g : G} {p : P2} (h : p ∈ gPl g) : (gNd g p).isSome = true := by
  unfold gPl at h
  split at h
  · rename_i hok
    exact (gNd_places hok).2 h
  · simp at h
theorem wayO_pl {g : G} {p q : P2} (hp : p ∈ gPl g) (hq : q ∈ gPl g) : wayO g p q = wayM g p q := by
  unfold wayO; rw [if_pos ⟨pl_nd hp, pl_nd hq⟩]
theorem way_self {g : G} (hn : (gPl g).length ≤ 20) {p : P2} (hp : p ∈ gPl g) : wayM g p p = some (false, 0) := (wayM_least hn hp).self
theorem wk_top {g : G} {p0 : P2} : ∀ {ws : List Ar} {u v : P2}, Wk (arcsL g) p0 u ws v → cl (loopAt g.1) u ≤ cl (loopAt g.1) v ∧ (cl (loopAt g.1) u = cl (loopAt g.1) v → cl (loopAt g.1) u ≠ 1 → u = v ∨ u.1 < v.1)
  | [], u, v, hw => by
    have : u = v := hw
    subst this
    exact ⟨Nat.le_refl _, fun _ _ => .inl rfl⟩
  | a :: r, u, v, hw => by
    obtain ⟨h1, h2, h3, h4⟩ := hw
    subst h2
    have c := arcC h1
    obtain ⟨i1, i2⟩ := wk_top (ws := r) h4
    have c1 := c.up
    refine ⟨by omega, fun e1 e2 => ?_⟩
    have t := c.top (by omega) e2
    rcases i2 (by omega) (by omega) with i | i
    · rw [← i]; exact .inr t
    · exact .inr (by omega)
theorem wk_in1 {g : G} {p0 : P2} : ∀ {ws : List Ar} {u v : P2} {x : Wy}, Wk (arcsL g) p0 u ws v → cl (loopAt g.1) u = 1 → cl (loopAt g.1) v = 1 → u.2 ≤ v.2 ∨ x.2 + 1 ≤ (val x ws).2
  | [], u, v, x, hw, _, _ => by
    have : u = v := hw
    subst this
    exact .inl (Int.le_refl _)
  | a :: r, u, v, x, hw, hu, hv => by
    obtain ⟨h1, h2, h3, h4⟩ := hw
    subst h2
    have c := arcC h1
    have c1 := c.up
    have i0 := (wk_top (ws := r) h4).1
    have hm : cl (loopAt g.1) a.1.2 = 1 := by omega
    have hs : a.2.1 = false := by
      cases q : a.2.1 with
      | false => rfl
      | true => have := (c.st q).1; omega
    have e : thn x a.2 = (x.1, x.2 + a.2.2) := by unfold thn; rw [if_neg (by rw [hs]; simp)]
    have hval : val x (a :: r) = val (thn x a.2) r := rfl
    by_cases q : a.2.2 = 0
    · have f := c.fwd hu hm q
      rcases wk_in1 (ws := r) (x := thn x a.2) h4 hm hv with i | i
      · exact .inl (by omega)
      · rw [hval]
        rw [e] at i ⊢
        simp only at i
        exact .inr (by omega)
    · have q1 := (c.add q).1
      have mono : ∀ {s : List Ar} {u v : P2} {x : Wy}, Wk (arcsL g) p0 u s v → cl (loopAt g.1) u = 1 → cl (loopAt g.1) v = 1 → x.2 ≤ (val x s).2 := by
        intro s
        induction s with
        | nil => intro u v x _ _ _; exact Int.le_refl _
        | cons b s ih =>
          intro u v x hw hu hv
          obtain ⟨k1, k2, k3, k4⟩ := hw
          subst k2
          have c := arcC k1
          have c1 := c.up
          have i0 := (wk_top (ws := s) k4).1
          have hm : cl (loopAt g.1) b.1.2 = 1 := by omega
          have hs : b.2.1 = false := by
            cases q : b.2.1 with
            | false => rfl
            | true => have := (c.st q).1; omega
          have e : thn x b.2 = (x.1, x.2 + b.2.2) := by unfold thn; rw [if_neg (by rw [hs]; simp)]
          have hval : val x (b :: s) = val (thn x b.2) s := rfl
          have := ih (x := thn x b.2) k4 hm hv
          rw [hval]
          rw [e] at this ⊢
          simp only at this
          have : 0 ≤ b.2.2 := by
            by_cases q : b.2.2 = 0
            · omega
            · have := (c.add q).1; omega
          omega
      have := mono (x := thn x a.2) h4 hm hv
      rw [hval]
      rw [e] at this ⊢
      simp only at this
      exact .inr (by omega)
theorem ends_cyc {g : G} (hn : (gPl g).length ≤ 20) {p q : P2} (hp : p ∈ gPl g) (hq : q ∈ gPl g) {x y : Wy} (h1 : wayM g p q = some x) (h2 : wayM g q p = some y) (hne : p ≠ q) : 0 ≤ p.2 ∧ 0 ≤ q.2 := by
  obtain ⟨ws, hw, -⟩ := (wayM_least hn hp).walk q x h1
  obtain ⟨vs, hv, -⟩ := (wayM_least hn hq).walk p y h2
  obtain ⟨a1, a2⟩ := wk_top hw
  obtain ⟨b1, b2⟩ := wk_top hv
  have hc : cl (loopAt g.1) p = cl (loopAt g.1) q := by omega
  by_cases h : cl (loopAt g.1) p = 1
  · have h' : cl (loopAt g.1) q = 1 := by omega
    unfold cl at h h'
    refine ⟨?_, ?_⟩
    · by_cases k : 0 ≤ p.2
      · exact k
      · rw [if_neg k] at h; split at h <;> omega
    · by_cases k : 0 ≤ q.2
      · exact k
      · rw [if_neg k] at h'; split at h' <;> omega
  · exfalso
    rcases a2 hc h with e | e
    · exact hne e
    · rcases b2 hc.symm (by omega) with e' | e'
      · exact hne e'.symm
      · omega
theorem ends_out {g : G} (hn : (gPl g).length ≤ 20) {p q : P2} (hp : p ∈ gPl g) {x : Wy} (h1 : wayM g p q = some x) (h2 : p.2 < 0) (h3 : 0 ≤ q.2) : p.1 < loopAt g.1 := by
  obtain ⟨ws, hw, -⟩ := (wayM_least hn hp).walk q x h1
  have := (wk_top hw).1
  unfold cl at this
  rw [if_neg (show ¬ 0 ≤ p.2 by omega), if_pos h3] at this
  split at this
  · assumption
  · omega
theorem ends_in {g : G} (hn : (gPl g).length ≤ 20) {p q : P2} (hp : p ∈ gPl g) {x : Wy} (h1 : wayM g p q = some x) (h2 : 0 ≤ p.2) (h3 : 0 ≤ q.2) (h4 : q.2 < p.2) : 1 ≤ x.2 := by
  obtain ⟨ws, hw, hv⟩ := (wayM_least hn hp).walk q x h1
  have e1 : cl (loopAt g.1) p = 1 := by unfold cl; rw [if_pos h2]
  have e2 : cl (loopAt g.1) q = 1 := by unfold cl; rw [if_pos h3]
  rcases wk_in1 (x := (false, 0)) hw e1 e2 with h | h
  · omega
  · rw [hv] at h; simp only at h; omega
end Go.Ox.Pl
namespace Go.Ox
open Go.RowKit
def allocs (w : World) : List (Array Value × TypeId) → World
  | [] => w
  | x :: r => allocs (w.alloc (.cells x.1 x.2)) r
theorem allocs_ext : ∀ (bs : List (Array Value × TypeId)) (w : World), Ext w (allocs w bs)
  | [], w => Ext.refl w
  | x :: r, w => ((Ext.refl w).alloc (.cells x.1 x.2)).trans (allocs_ext r _)
theorem allocs_at : ∀ (bs : List (Array Value × TypeId)) (w : World) (k : Nat) (cs : Array Value) (t : TypeId), bs[k]? = some (cs, t) → Blk (allocs w bs) (w.heap.size + k) t cs
  | [], w, k, cs, t, h => by simp at h
  | x :: r, w, 0, cs, t, h => by
    simp only [List.getElem?_cons_zero, Option.some.injEq] at h
    subst h
    exact (Blk.new w t cs).ext (allocs_ext r _)
  | x :: r, w, k + 1, cs, t, h => by
    have := allocs_at r (w.alloc (.cells x.1 x.2)) k cs t (by simpa using h)
    have e : (w.alloc (.cells x.1 x.2)).heap.size + k = w.heap.size + (k + 1) := by simp; omega
    rw [e] at this
    exact this
end Go.Ox
namespace Go.Proofs.Ytcacicgkebcdkaa
open Go.RowKit Go.Ox Go.Ox.Gr Go.ChangeShapes Go.WideShapes
section
variable {H : Type} {enc : TypeId × Value → H} {W : World} {base : Nat} {sp : Nat → Bool} {held : Bool} {v u : Value} {d : DataW H} {p : List MemPlace} {r : Reach} {b0 N : Nat}
theorem ints_eV {R : TypeId → Value → Prop} : ∀ (rows : List (List Value)), (∀ x ∈ rows, rowT R [.int .i64] x) → ∃ l : List Int, rows.length = l.length ∧ rows.flatten = eV l
  | [], _ => ⟨[], rfl, rfl⟩
  | r :: rows, h => by
    obtain ⟨l, h1, h2⟩ := ints_eV rows fun x hx => h x (List.mem_cons_of_mem _ hx)
    obtain ⟨n, cs, rfl, _, hr⟩ := rowT_int (h r (List.mem_cons_self ..))
    obtain rfl := rowT_nil hr
    exact ⟨n :: l, by simp [h1], by rw [List.flatten_cons, h2]; rfl⟩
theorem ints_of_was (h : Was enc Try.prog W base sp held N 41 u) : ∃ l : List Int, RE W u l := by
  obtain ⟨rows, hr, -, hx⟩ := Was.rows (n := 8) (ks := [.int .i64]) Try.underlying41 (by kernel_rfl) (by kernel_rfl) (by decide) h
  obtain ⟨l, h1, h2⟩ := ints_eV rows hx
  rw [h1, h2] at hr
  exact ⟨l, RE.mk hr⟩
theorem nodes_of_was : ∀ (N : Nat) (u : Value), Was enc Try.prog W base sp held N 22 u → ∃ l : List Nd, NodesR N W u l := by
  intro N
  induction N with
  | zero =>
    intro u h
    obtain ⟨rows, hr, h0, hx⟩ := Was.rows (n := 8) (ks := [.int .i64, .cell 41, .int .i64, .int .i64, .int .i64, .cell 22]) Try.underlying22 (by kernel_rfl) (by kernel_rfl) (by decide) h
    obtain rfl : rows = [] := h0.elim id fun h => absurd h (Nat.lt_irrefl _)
    exact ⟨[], ⟨[], hr, rfl, fun i r x hr => by simp at hr⟩⟩
  | succ N ih =>
    intro u h
    obtain ⟨rows, hr, h0, hx⟩ := Was.rows (n := 8) (ks := [.int .i64, .cell 41, .int .i64, .int .i64, .int .i64, .cell 22]) Try.underlying22 (by kernel_rfl) (by kernel_rfl) (by decide) h
    have each : ∀ r ∈ rows, r.length = 6 ∧ ∃ x : Nd, NdQ (NodesR N) W r x := fun r hr2 => by
      have hr := hx r hr2
      refine ⟨rowT_len hr, ?_⟩
      obtain ⟨op, cs, rfl, _, hr⟩ := rowT_int hr
      obtain ⟨u1, cs, rfl, hu1, hr⟩ := rowT_cell hr
      obtain ⟨kind, cs, rfl, _, hr⟩ := rowT_int hr
      obtain ⟨fa, cs, rfl, _, hr⟩ := rowT_int hr
      obtain ⟨a, cs, rfl, _, hr⟩ := rowT_int hr
      obtain ⟨u2, cs, rfl, hu2, hr⟩ := rowT_cell hr
      obtain rfl := rowT_nil hr
      obtain ⟨ins, hins⟩ := ints_of_was hu1
      obtain ⟨body, hbody⟩ := ih _ hu2
      exact ⟨.mk op ins kind fa a body, u1, u2, rfl, hins, hbody⟩
    obtain ⟨l, hl⟩ := RS.of_rows hr each
    exact ⟨l, NodesR.of_rs hl⟩
abbrev GArg := (Value × Nat) × G
theorem graphArg (hv : Value.okWide Try.prog W r b0 24 v) (h : DataW.Trod enc Try.prog W base sp held 24 v d p) :
    ∃ x : GArg, v = gAg x.1.1 x.2.2 ∧ NodesR x.1.2 W x.1.1 x.2.1 := by
  obtain ⟨cs, N, rfl, hr⟩ := struct_of_trodT (n := 8) (ks := [.cell 22, .int .i64]) (by kernel_rfl) Try.underlying24 hv h
  obtain ⟨u, cs, rfl, hu, hr⟩ := rowT_cell hr
  obtain ⟨out, cs, rfl, _, hr⟩ := rowT_int hr
  obtain rfl := rowT_nil hr
  obtain ⟨l, hl⟩ := nodes_of_was N u hu
  exact ⟨((u, N), l, out), rfl, hl⟩
end
end Go.Proofs.Ytcacicgkebcdkaa
namespace Go.Proofs.Ytcacicgkebcdkaa
open Go.RowKit Go.Ox Go.Ox.Gr
set_option maxHeartbeats 4000000 in
theorem rfnFamily (k a : Int) (w : World) : Calls Try.prog 64 #[fnV k a] w fun e w' => e = .returned (.int .i64 (fam k a)) ∧ Ext w w' := by
  have HX0 := Lib.hid ((Ext.refl w).alloc (.cells #[.int .i64 k, .int .i64 a] 43))
  have hb := Blk.new w 43 #[.int .i64 k, .int .i64 a]
  have c0 : (w.alloc (.cells #[.int .i64 k, .int .i64 a] 43)).cell? ⟨w.heap.size, 0, none⟩ = some (.int .i64 k) := hb.cell 0
  have c1 : (w.alloc (.cells #[.int .i64 k, .int .i64 a] 43)).cell? ⟨w.heap.size, 1, none⟩ = some (.int .i64 a) := hb.cell 1
  clear hb
  have hlo : 0 ≤ lst k ∧ mst k ≤ 1048575 := by
    unfold lst mst
    repeat' split
    all_goals omega
  by_cases h1 : a < 0
  · rw [show fam k a = 0 from if_pos (by omega)]
    clear hlo
    go_enter Try.func64, Try.ntmps64
    go_wp2
    go_ret
    exact ⟨rfl, HX0.out⟩
  by_cases h2 : 1048576 ≤ a
  · rw [show fam k a = 0 from if_pos (by omega)]
    clear hlo
    go_enter Try.func64, Try.ntmps64
    go_wp2
    go_ret
    exact ⟨rfl, HX0.out⟩
  clear hlo
  have ha : (a = 0 ∧ ¬ 1 ≤ a ∧ a ≤ 8) ∨ (¬ a = 0 ∧ 1 ≤ a ∧ a ≤ 8) ∨ (¬ a = 0 ∧ 1 ≤ a ∧ ¬ a ≤ 8) := by omega
  rcases kinds k with rfl | rfl | rfl | rfl | rfl | rfl | rfl | rfl | rfl | rfl | rfl | rfl | rfl | rfl | rfl | rfl | rfl | rfl | rfl | rfl | rfl | rfl | rfl | hk
  case' inr.inr.inr.inr.inr.inr.inr.inr.inr.inr.inr.inr.inr.inr.inr.inr.inr.inr.inr.inr.inr.inr.inr =>
    have e1 : fam k a = 0 := by unfold fam fk; rcases hk with hk | hk; rw [if_pos hk]; simp; rw [if_neg (show ¬ k < 1 by omega), if_neg (show ¬ k ≤ 8 by omega), if_neg (show ¬ k ≤ 12 by omega), if_neg (show ¬ k ≤ 15 by omega), if_neg (show ¬ k ≤ 19 by omega), if_neg (show ¬ k ≤ 23 by omega)]; simp
    rw [e1]
    clear e1
    have n1 : ¬ k = 1 := by omega
    have n2 : ¬ k = 2 := by omega
    have n3 : ¬ k = 3 := by omega
    have n4 : ¬ k = 4 := by omega
    have n5 : ¬ k = 5 := by omega
    have n6 : ¬ k = 6 := by omega
    have n7 : ¬ k = 7 := by omega
    have n8 : ¬ k = 8 := by omega
    have n9 : ¬ k = 9 := by omega
    have n10 : ¬ k = 10 := by omega
    have n11 : ¬ k = 11 := by omega
    have n12 : ¬ k = 12 := by omega
    have n13 : ¬ k = 13 := by omega
    have n14 : ¬ k = 14 := by omega
    have n15 : ¬ k = 15 := by omega
    have n16 : ¬ k = 16 := by omega
    have n17 : ¬ k = 17 := by omega
    have n18 : ¬ k = 18 := by omega
    have n19 : ¬ k = 19 := by omega
    have n20 : ¬ k = 20 := by omega
    have n21 : ¬ k = 21 := by omega
    have n22 : ¬ k = 22 := by omega
    have n23 : ¬ k = 23 := by omega
    clear hk
  all_goals
    rcases ha with ⟨rfl, g2, g3⟩ | ⟨g1, g2, g3⟩ | ⟨g1, g2, g3⟩
    all_goals
      go_enter Try.func64, Try.ntmps64
      go_wp2
      go_ret
      refine ⟨?_, HX0.out⟩
      first | rfl | (unfold fam lst mst fk; simp; omega)
set_option maxHeartbeats 400000 in
theorem rArity_any (k : Int) (w : World) : Calls Try.prog 62 #[.int .i64 k] w fun e w' => e = .returned (.int .i64 (arity k)) ∧ w = w' := by
  rcases ops11 k with rfl | rfl | rfl | rfl | rfl | rfl | rfl | rfl | rfl | rfl | rfl | hk
  case' inr.inr.inr.inr.inr.inr.inr.inr.inr.inr.inr =>
    have e1 : arity k = 0 := by unfold arity; repeat' rw [if_neg (by omega)]
    rw [e1]
    clear e1
    have n1 : ¬ k = 1 := by omega
    have n2 : ¬ k = 2 := by omega
    have n3 : ¬ k = 3 := by omega
    have n4 : ¬ k = 4 := by omega
    have n5 : ¬ k = 5 := by omega
    have n6 : ¬ k = 6 := by omega
    have n7 : ¬ k = 7 := by omega
    have n8 : ¬ k = 8 := by omega
    have n9 : ¬ k = 9 := by omega
    have n10 : ¬ k = 10 := by omega
    have n11 : ¬ k = 11 := by omega
    clear hk
  all_goals
    go_enter Try.func62, Try.ntmps62
    go_wp2
    go_ret
    exact ⟨rfl, rfl⟩
set_option maxHeartbeats 400000 in
theorem rfamily_any (k : Int) (w : World) : Calls Try.prog 63 #[.int .i64 k] w fun e w' => e = .returned (.int .i64 (fmly k)) ∧ w = w' := by
  rcases ops11 k with rfl | rfl | rfl | rfl | rfl | rfl | rfl | rfl | rfl | rfl | rfl | hk
  case' inr.inr.inr.inr.inr.inr.inr.inr.inr.inr.inr =>
    have e1 : fmly k = 0 := by unfold fmly; repeat' rw [if_neg (by omega)]
    rw [e1]
    clear e1
    have n1 : ¬ k = 1 := by omega
    have n2 : ¬ k = 2 := by omega
    have n3 : ¬ k = 3 := by omega
    have n4 : ¬ k = 4 := by omega
    have n5 : ¬ k = 5 := by omega
    have n6 : ¬ k = 6 := by omega
    have n7 : ¬ k = 7 := by omega
    have n8 : ¬ k = 8 := by omega
    have n9 : ¬ k = 9 := by omega
    have n10 : ¬ k = 10 := by omega
    have n11 : ¬ k = 11 := by omega
    clear hk
  all_goals
    go_enter Try.func63, Try.ntmps63
    go_wp2
    go_ret
    exact ⟨rfl, rfl⟩
end Go.Proofs.Ytcacicgkebcdkaa
namespace Go.Proofs.Ytcacicgkebcdkaa
open Go.RowKit Go.Ox Go.Ox.Gr
theorem insOk_s (ins : List Int) (i : Nat) {k : Nat} (h : k < ins.length) : insOk (ins.take (k + 1)) i = (insOk (ins.take k) i && ahB ins[k] i) := by
  unfold insOk ahB
  rw [List.take_succ_eq_append_getElem h, List.all_append]
  simp
theorem insOk_no (ins : List Int) (i : Nat) {k : Nat} (h : k < ins.length) (hx : ¬ (0 ≤ ins[k] ∧ ins[k] < (i : Int))) : insOk ins i = false := by
  cases hi : insOk ins i with
  | false => rfl
  | true =>
    unfold insOk at hi
    have := List.all_eq_true.1 hi ins[k] (List.getElem_mem h)
    simp only [Bool.and_eq_true, decide_eq_true_eq] at this
    exact absurd this hx
end Go.Proofs.Ytcacicgkebcdkaa
