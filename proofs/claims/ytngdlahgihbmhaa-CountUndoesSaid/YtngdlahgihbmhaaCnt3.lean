/-
  The walks of package count: their order; all counts in order.
-/
import Derived.Test.YtngdlahgihbmhaaCnt2
namespace Go.Proofs.Ytngdlahgihbmhaa
open Go.RowKit Go.Ox Go.Shelf
set_option linter.unusedVariables false
set_option linter.unusedSimpArgs false

set_option maxRecDepth 100000 in
set_option maxHeartbeats 400000 in
theorem or3_any (v : Value) (a b c : Int) (w : World) (hv : Rd w 1 v 3 [.int .i64 a, .int .i64 b, .int .i64 c]) : Calls Try.prog 31 #[v] w fun e w' => e = .returned (.int .i64 (orI a (orI b c))) ∧ w = w' := by
  obtain ⟨A, c9, rfl, hrd⟩ := hv
  obtain ⟨g, o, rfl⟩ := hrd.addr (by omega)
  have hc0 := hrd.get (j := 0) (u := .int .i64 a) rfl
  have hc1 := hrd.get (j := 1) (u := .int .i64 b) rfl
  have hc2 := hrd.get (j := 2) (u := .int .i64 c) rfl
  rw [Nat.add_zero] at hc0
  clear hrd
  unfold orI
  go_enter Try.func31, Try.ntmps31
  go_wp2
  go_loop [8] (fun i => ∃ k : Nat, k ≤ 3 ∧ i = .int .i64 k ∧ (0 < k → a = 0) ∧ (1 < k → b = 0) ∧ (2 < k → c = 0)) (fun i => 3 - (intOf i).toNat)
  case atStart => exact ⟨0, by omega, rfl, fun h => by omega, fun h => by omega, fun h => by omega⟩
  case round =>
    obtain ⟨k, hk, rfl, h0, h1, h2⟩ := hrel
    match k, hk with
    | 0, _ =>
      by_cases ha : a = 0
      · subst ha
        clear h0 h1 h2
        go_wp2
        exact ⟨⟨1, by omega, rfl, by simp, fun h => by omega, fun h => by omega⟩, by simp [intOf]⟩
      · have hb : (a != 0) = true := by simpa using ha
        clear h0 h1 h2
        go_wp2
        go_ret
        exact ⟨rfl, rfl⟩
    | 1, _ =>
      obtain rfl := h0 (by omega)
      by_cases hb : b = 0
      · subst hb
        clear h0 h1 h2
        go_wp2
        exact ⟨⟨2, by omega, rfl, by simp, by simp, fun h => by omega⟩, by simp [intOf]⟩
      · have hb2 : (b != 0) = true := by simpa using hb
        clear h0 h1 h2
        go_wp2
        go_ret
        exact ⟨by simp [hb], rfl⟩
    | 2, _ =>
      obtain rfl := h0 (by omega)
      obtain rfl := h1 (by omega)
      by_cases hb : c = 0
      · subst hb
        clear h0 h1 h2
        go_wp2
        exact ⟨⟨3, by omega, rfl, by simp, by simp, by simp⟩, by simp [intOf]⟩
      · have hb2 : (c != 0) = true := by simpa using hb
        clear h0 h1 h2
        go_wp2
        go_ret
        exact ⟨by simp, rfl⟩
    | 3, _ =>
      obtain rfl := h0 (by omega)
      obtain rfl := h1 (by omega)
      obtain rfl := h2 (by omega)
      clear h0 h1 h2
      go_wp2
      go_ret
      exact ⟨rfl, rfl⟩
theorem orI3 (a b : Cnt.K) : orI (cmpI a.1.1 b.1.1) (orI (cmpI a.1.2 b.1.2) (Mom.cmp a.2 b.2)) = Cnt.kcmp a b := by
  have h := cmpOr a.1 b.1
  unfold Cnt.kcmp
  rw [← h]
  unfold orI
  repeat' split
  all_goals first | rfl | omega

theorem box5 (w : World) (T : TypeId) (a b c d e a' b' c' d' e' : Value) : ∃ w2, w2 = (w.alloc (.cells #[a, b, c, d, e] T)).alloc (.cells #[a', b', c', d', e'] T) ∧ GrownW w w2 ∧
    w2.cell? ⟨w.heap.size, 0, none⟩ = some a ∧ w2.cell? ⟨w.heap.size, 1, none⟩ = some b ∧ w2.cell? ⟨w.heap.size, 2, none⟩ = some c ∧ w2.cell? ⟨w.heap.size, 3, none⟩ = some d ∧ w2.cell? ⟨w.heap.size, 4, none⟩ = some e ∧
    w2.cell? ⟨w.heap.size + 1, 0, none⟩ = some a' ∧ w2.cell? ⟨w.heap.size + 1, 1, none⟩ = some b' ∧ w2.cell? ⟨w.heap.size + 1, 2, none⟩ = some c' ∧ w2.cell? ⟨w.heap.size + 1, 3, none⟩ = some d' ∧ w2.cell? ⟨w.heap.size + 1, 4, none⟩ = some e' := by
  have h1 := (Blk.new w T #[a, b, c, d, e]).ext ((Ext.refl _).alloc (.cells #[a', b', c', d', e'] T))
  have h2 := Blk.new (w.alloc (.cells #[a, b, c, d, e] T)) T #[a', b', c', d', e']
  have hs : (w.alloc (.cells #[a, b, c, d, e] T)).heap.size = w.heap.size + 1 := by simp
  rw [hs] at h2
  exact ⟨_, rfl, ((GrownW.refl _).alloc _).alloc _, h1.cell 0, h1.cell 1, h1.cell 2, h1.cell 3, h1.cell 4, h2.cell 0, h2.cell 1, h2.cell 2, h2.cell 3, h2.cell 4⟩
set_option maxRecDepth 100000 in
set_option maxHeartbeats 1000000 in
theorem order_any (x y : Cnt.S) (w : World) : Calls Try.prog 26 #[sV x, sV y] w fun e w' => e = .returned (.int .i64 (Cnt.kcmp x.1 y.1)) ∧ GrownW w w' := by
  have HC := Lib.hid (orI3 x.1 y.1)
  obtain ⟨⟨⟨x1, x2⟩, x3, x4⟩, x5⟩ := x
  obtain ⟨⟨⟨y1, y2⟩, y3, y4⟩, y5⟩ := y
  dsimp only at *
  go_enter Try.func26, Try.ntmps26
  go_wp2
  obtain ⟨w2, hw2, hx, c0, c1, c2, c3, c4, d0, d1, d2, d3, d4⟩ := box5 w 34 (.int .i64 x1) (.int .i64 x2) (.int .i64 x3) (.int .i64 x4) (.int .i64 x5) (.int .i64 y1) (.int .i64 y2) (.int .i64 y3) (.int .i64 y4) (.int .i64 y5)
  rw [← hw2]
  clear hw2
  generalize w.heap.size = n at *
  refine wp_regionY [] [] GrownW GrownW (fun _ => True) (by kernel_rfl) (by rfl) (by rfl) (by kernel_rfl) (by kernel_rfl) (by kernel_rfl) (fun _ _ _ x y => x.trans y) GrownW.refl (fun _ _ x => x) (GrownW.refl _).drew (fun _ _ x _ => x) trivial ?_
  repeat (first | (refine wpY_move0 rfl rfl (by first | exact runs0 | exact runs1 rfl) GrownW.refl rfl rfl rfl ?_; apply Exists.intro; refine ⟨?_, ?_⟩; · (go_simp; rfl)) | (refine wpY_move rfl rfl (by first | exact runs0 | exact runs1 rfl) GrownW.refl rfl rfl rfl (fun _ _ _ h _ => h) ?_) | (refine wpY_val rfl rfl (by first | exact runs0 | exact runs1 rfl) GrownW.refl rfl ?_; apply Exists.intro; refine ⟨?_, ?_⟩; · (intro a w' hR; intro h1; (first | (have e1 : _ = _ := h1) | skip); intro h2; (first | (have e2 : _ = _ := h2) | skip); go_simp; rfl)) | (refine wpY_val rfl rfl (by first | exact runs0 | exact runs1 rfl) GrownW.refl rfl ?_; apply Exists.intro; refine ⟨?_, ?_⟩; · (intro a w' hR; intro h1; (first | (have e1 : _ = _ := h1) | skip); go_simp; rfl)) | (refine wpY_val rfl rfl (by first | exact runs0 | exact runs1 rfl) GrownW.refl rfl ?_; apply Exists.intro; refine ⟨?_, ?_⟩; · (intro a w' hR; go_simp; rfl)) | (refine wpY_val rfl rfl (by first | exact runs0 | exact runs1 rfl) GrownW.refl rfl ?_; apply Exists.intro; refine ⟨?_, ?_⟩; · (intro a w' hR; intro h1; (first | (have e1 : _ = _ := h1) | skip); intro h2; (first | (have e2 : _ = _ := h2) | skip); intro h3; (first | (have e3 : _ = _ := h3) | skip); go_simp; rfl)) | (refine wpY_skip rfl rfl (by first | exact .inl rfl | exact .inr rfl) ?_))
  refine wpY_val rfl rfl (by first | exact runs0 | exact runs1 rfl) GrownW.refl rfl ?_; apply Exists.intro; refine ⟨?_, ?_⟩
  · intro a w' hR h1
    have e1 : _ = _ := h1
    have hl := hR.ext.cell c0
    go_simp
    rfl
  repeat (first | (refine wpY_move0 rfl rfl (by first | exact runs0 | exact runs1 rfl) GrownW.refl rfl rfl rfl ?_; apply Exists.intro; refine ⟨?_, ?_⟩; · (go_simp; rfl)) | (refine wpY_move rfl rfl (by first | exact runs0 | exact runs1 rfl) GrownW.refl rfl rfl rfl (fun _ _ _ h _ => h) ?_) | (refine wpY_val rfl rfl (by first | exact runs0 | exact runs1 rfl) GrownW.refl rfl ?_; apply Exists.intro; refine ⟨?_, ?_⟩; · (intro a w' hR; intro h1; (first | (have e1 : _ = _ := h1) | skip); intro h2; (first | (have e2 : _ = _ := h2) | skip); go_simp; rfl)) | (refine wpY_val rfl rfl (by first | exact runs0 | exact runs1 rfl) GrownW.refl rfl ?_; apply Exists.intro; refine ⟨?_, ?_⟩; · (intro a w' hR; intro h1; (first | (have e1 : _ = _ := h1) | skip); go_simp; rfl)) | (refine wpY_val rfl rfl (by first | exact runs0 | exact runs1 rfl) GrownW.refl rfl ?_; apply Exists.intro; refine ⟨?_, ?_⟩; · (intro a w' hR; go_simp; rfl)) | (refine wpY_val rfl rfl (by first | exact runs0 | exact runs1 rfl) GrownW.refl rfl ?_; apply Exists.intro; refine ⟨?_, ?_⟩; · (intro a w' hR; intro h1; (first | (have e1 : _ = _ := h1) | skip); intro h2; (first | (have e2 : _ = _ := h2) | skip); intro h3; (first | (have e3 : _ = _ := h3) | skip); go_simp; rfl)) | (refine wpY_skip rfl rfl (by first | exact .inl rfl | exact .inr rfl) ?_))
  refine wpY_val rfl rfl (by first | exact runs0 | exact runs1 rfl) GrownW.refl rfl ?_; apply Exists.intro; refine ⟨?_, ?_⟩
  · intro a w' hR h1
    have e1 : _ = _ := h1
    have hl := hR.ext.cell d0
    go_simp
    rfl
  refine wpY_call (fun v _ => v = .int .i64 (cmpI x1 y1)) rfl rfl (by first | exact runs0 | exact runs1 rfl) rfl (by first | exact mono_eq | exact (fun _ _ _ h k => Rd.ext h k) | exact (fun _ _ _ h k => RB.ext h k) | exact (fun _ _ _ h k => OB.ext h k) | exact (fun _ _ _ h k => RB.extS h k) | exact (fun _ _ _ h k => Rd.ext h (GrownW.ext k)) | exact (fun _ _ _ h k => RP.ext h k) | exact (fun _ _ _ h k => OP.ext h k) | exact (fun _ _ _ h k => Rd.extV h k) | exact (fun _ _ _ h k => RB.extV h k) | exact (fun _ _ _ h k => E0.ext h k) | exact (fun _ _ _ h k => O0.ext h k)) ?_ ?_
  · intro a w' hR h1 h2 K hK
    have e1 : _ = _ := h1
    have e2 : _ = _ := h2
    go_simp
    refine (compareInt_any x1 y1 w').mono ?_
    rintro e w2 ⟨rfl, rfl⟩
    exact hK _ _ (GrownW.refl _) rfl
  repeat (first | (refine wpY_move0 rfl rfl (by first | exact runs0 | exact runs1 rfl) GrownW.refl rfl rfl rfl ?_; apply Exists.intro; refine ⟨?_, ?_⟩; · (go_simp; rfl)) | (refine wpY_move rfl rfl (by first | exact runs0 | exact runs1 rfl) GrownW.refl rfl rfl rfl (fun _ _ _ h _ => h) ?_) | (refine wpY_val rfl rfl (by first | exact runs0 | exact runs1 rfl) GrownW.refl rfl ?_; apply Exists.intro; refine ⟨?_, ?_⟩; · (intro a w' hR; intro h1; (first | (have e1 : _ = _ := h1) | skip); intro h2; (first | (have e2 : _ = _ := h2) | skip); go_simp; rfl)) | (refine wpY_val rfl rfl (by first | exact runs0 | exact runs1 rfl) GrownW.refl rfl ?_; apply Exists.intro; refine ⟨?_, ?_⟩; · (intro a w' hR; intro h1; (first | (have e1 : _ = _ := h1) | skip); go_simp; rfl)) | (refine wpY_val rfl rfl (by first | exact runs0 | exact runs1 rfl) GrownW.refl rfl ?_; apply Exists.intro; refine ⟨?_, ?_⟩; · (intro a w' hR; go_simp; rfl)) | (refine wpY_val rfl rfl (by first | exact runs0 | exact runs1 rfl) GrownW.refl rfl ?_; apply Exists.intro; refine ⟨?_, ?_⟩; · (intro a w' hR; intro h1; (first | (have e1 : _ = _ := h1) | skip); intro h2; (first | (have e2 : _ = _ := h2) | skip); intro h3; (first | (have e3 : _ = _ := h3) | skip); go_simp; rfl)) | (refine wpY_skip rfl rfl (by first | exact .inl rfl | exact .inr rfl) ?_))
  refine wpY_val rfl rfl (by first | exact runs0 | exact runs1 rfl) GrownW.refl rfl ?_; apply Exists.intro; refine ⟨?_, ?_⟩
  · intro a w' hR h1
    have e1 : _ = _ := h1
    have hl := hR.ext.cell c1
    go_simp
    rfl
  repeat (first | (refine wpY_move0 rfl rfl (by first | exact runs0 | exact runs1 rfl) GrownW.refl rfl rfl rfl ?_; apply Exists.intro; refine ⟨?_, ?_⟩; · (go_simp; rfl)) | (refine wpY_move rfl rfl (by first | exact runs0 | exact runs1 rfl) GrownW.refl rfl rfl rfl (fun _ _ _ h _ => h) ?_) | (refine wpY_val rfl rfl (by first | exact runs0 | exact runs1 rfl) GrownW.refl rfl ?_; apply Exists.intro; refine ⟨?_, ?_⟩; · (intro a w' hR; intro h1; (first | (have e1 : _ = _ := h1) | skip); intro h2; (first | (have e2 : _ = _ := h2) | skip); go_simp; rfl)) | (refine wpY_val rfl rfl (by first | exact runs0 | exact runs1 rfl) GrownW.refl rfl ?_; apply Exists.intro; refine ⟨?_, ?_⟩; · (intro a w' hR; intro h1; (first | (have e1 : _ = _ := h1) | skip); go_simp; rfl)) | (refine wpY_val rfl rfl (by first | exact runs0 | exact runs1 rfl) GrownW.refl rfl ?_; apply Exists.intro; refine ⟨?_, ?_⟩; · (intro a w' hR; go_simp; rfl)) | (refine wpY_val rfl rfl (by first | exact runs0 | exact runs1 rfl) GrownW.refl rfl ?_; apply Exists.intro; refine ⟨?_, ?_⟩; · (intro a w' hR; intro h1; (first | (have e1 : _ = _ := h1) | skip); intro h2; (first | (have e2 : _ = _ := h2) | skip); intro h3; (first | (have e3 : _ = _ := h3) | skip); go_simp; rfl)) | (refine wpY_skip rfl rfl (by first | exact .inl rfl | exact .inr rfl) ?_))
  refine wpY_val rfl rfl (by first | exact runs0 | exact runs1 rfl) GrownW.refl rfl ?_; apply Exists.intro; refine ⟨?_, ?_⟩
  · intro a w' hR h1
    have e1 : _ = _ := h1
    have hl := hR.ext.cell d1
    go_simp
    rfl
  refine wpY_call (fun v _ => v = .int .i64 (cmpI x2 y2)) rfl rfl (by first | exact runs0 | exact runs1 rfl) rfl (by first | exact mono_eq | exact (fun _ _ _ h k => Rd.ext h k) | exact (fun _ _ _ h k => RB.ext h k) | exact (fun _ _ _ h k => OB.ext h k) | exact (fun _ _ _ h k => RB.extS h k) | exact (fun _ _ _ h k => Rd.ext h (GrownW.ext k)) | exact (fun _ _ _ h k => RP.ext h k) | exact (fun _ _ _ h k => OP.ext h k) | exact (fun _ _ _ h k => Rd.extV h k) | exact (fun _ _ _ h k => RB.extV h k) | exact (fun _ _ _ h k => E0.ext h k) | exact (fun _ _ _ h k => O0.ext h k)) ?_ ?_
  · intro a w' hR h1 h2 K hK
    have e1 : _ = _ := h1
    have e2 : _ = _ := h2
    go_simp
    refine (compareInt_any x2 y2 w').mono ?_
    rintro e w2 ⟨rfl, rfl⟩
    exact hK _ _ (GrownW.refl _) rfl
  repeat (first | (refine wpY_move0 rfl rfl (by first | exact runs0 | exact runs1 rfl) GrownW.refl rfl rfl rfl ?_; apply Exists.intro; refine ⟨?_, ?_⟩; · (go_simp; rfl)) | (refine wpY_move rfl rfl (by first | exact runs0 | exact runs1 rfl) GrownW.refl rfl rfl rfl (fun _ _ _ h _ => h) ?_) | (refine wpY_val rfl rfl (by first | exact runs0 | exact runs1 rfl) GrownW.refl rfl ?_; apply Exists.intro; refine ⟨?_, ?_⟩; · (intro a w' hR; intro h1; (first | (have e1 : _ = _ := h1) | skip); intro h2; (first | (have e2 : _ = _ := h2) | skip); go_simp; rfl)) | (refine wpY_val rfl rfl (by first | exact runs0 | exact runs1 rfl) GrownW.refl rfl ?_; apply Exists.intro; refine ⟨?_, ?_⟩; · (intro a w' hR; intro h1; (first | (have e1 : _ = _ := h1) | skip); go_simp; rfl)) | (refine wpY_val rfl rfl (by first | exact runs0 | exact runs1 rfl) GrownW.refl rfl ?_; apply Exists.intro; refine ⟨?_, ?_⟩; · (intro a w' hR; go_simp; rfl)) | (refine wpY_val rfl rfl (by first | exact runs0 | exact runs1 rfl) GrownW.refl rfl ?_; apply Exists.intro; refine ⟨?_, ?_⟩; · (intro a w' hR; intro h1; (first | (have e1 : _ = _ := h1) | skip); intro h2; (first | (have e2 : _ = _ := h2) | skip); intro h3; (first | (have e3 : _ = _ := h3) | skip); go_simp; rfl)) | (refine wpY_skip rfl rfl (by first | exact .inl rfl | exact .inr rfl) ?_))
  refine wpY_val rfl rfl (by first | exact runs0 | exact runs1 rfl) GrownW.refl rfl ?_; apply Exists.intro; refine ⟨?_, ?_⟩
  · intro a w' hR h1
    have e1 : _ = _ := h1
    have hl := hR.ext.cell c2
    have hl2 := hR.ext.cell c3
    go_simp
    rfl
  repeat (first | (refine wpY_move0 rfl rfl (by first | exact runs0 | exact runs1 rfl) GrownW.refl rfl rfl rfl ?_; apply Exists.intro; refine ⟨?_, ?_⟩; · (go_simp; rfl)) | (refine wpY_move rfl rfl (by first | exact runs0 | exact runs1 rfl) GrownW.refl rfl rfl rfl (fun _ _ _ h _ => h) ?_) | (refine wpY_val rfl rfl (by first | exact runs0 | exact runs1 rfl) GrownW.refl rfl ?_; apply Exists.intro; refine ⟨?_, ?_⟩; · (intro a w' hR; intro h1; (first | (have e1 : _ = _ := h1) | skip); intro h2; (first | (have e2 : _ = _ := h2) | skip); go_simp; rfl)) | (refine wpY_val rfl rfl (by first | exact runs0 | exact runs1 rfl) GrownW.refl rfl ?_; apply Exists.intro; refine ⟨?_, ?_⟩; · (intro a w' hR; intro h1; (first | (have e1 : _ = _ := h1) | skip); go_simp; rfl)) | (refine wpY_val rfl rfl (by first | exact runs0 | exact runs1 rfl) GrownW.refl rfl ?_; apply Exists.intro; refine ⟨?_, ?_⟩; · (intro a w' hR; go_simp; rfl)) | (refine wpY_val rfl rfl (by first | exact runs0 | exact runs1 rfl) GrownW.refl rfl ?_; apply Exists.intro; refine ⟨?_, ?_⟩; · (intro a w' hR; intro h1; (first | (have e1 : _ = _ := h1) | skip); intro h2; (first | (have e2 : _ = _ := h2) | skip); intro h3; (first | (have e3 : _ = _ := h3) | skip); go_simp; rfl)) | (refine wpY_skip rfl rfl (by first | exact .inl rfl | exact .inr rfl) ?_))
  refine wpY_val rfl rfl (by first | exact runs0 | exact runs1 rfl) GrownW.refl rfl ?_; apply Exists.intro; refine ⟨?_, ?_⟩
  · intro a w' hR h1
    have e1 : _ = _ := h1
    have hl := hR.ext.cell d2
    have hl2 := hR.ext.cell d3
    go_simp
    rfl
  refine wpY_call (fun v _ => v = .int .i64 (Mom.cmp (x3, x4) (y3, y4))) rfl rfl (by first | exact runs0 | exact runs1 rfl) rfl (by first | exact mono_eq | exact (fun _ _ _ h k => Rd.ext h k) | exact (fun _ _ _ h k => RB.ext h k) | exact (fun _ _ _ h k => OB.ext h k) | exact (fun _ _ _ h k => RB.extS h k) | exact (fun _ _ _ h k => Rd.ext h (GrownW.ext k)) | exact (fun _ _ _ h k => RP.ext h k) | exact (fun _ _ _ h k => OP.ext h k) | exact (fun _ _ _ h k => Rd.extV h k) | exact (fun _ _ _ h k => RB.extV h k) | exact (fun _ _ _ h k => E0.ext h k) | exact (fun _ _ _ h k => O0.ext h k)) ?_ ?_
  · intro a w' hR h1 h2 K hK
    have e1 : _ = _ := h1
    have e2 : _ = _ := h2
    go_simp
    refine (compare_grown (x3, x4) (y3, y4) w').mono ?_
    rintro e w2 ⟨rfl, hg⟩
    exact hK _ _ hg rfl
  refine wpY_call (fun v w2 => Rd w2 1 v 3 [.int .i64 (cmpI x1 y1), .int .i64 (cmpI x2 y2), .int .i64 (Mom.cmp (x3, x4) (y3, y4))]) rfl rfl (by first | exact runs0 | exact runs1 rfl) rfl (by first | exact mono_eq | exact (fun _ _ _ h k => Rd.ext h k) | exact (fun _ _ _ h k => RB.ext h k) | exact (fun _ _ _ h k => OB.ext h k) | exact (fun _ _ _ h k => RB.extS h k) | exact (fun _ _ _ h k => Rd.ext h (GrownW.ext k)) | exact (fun _ _ _ h k => RP.ext h k) | exact (fun _ _ _ h k => OP.ext h k) | exact (fun _ _ _ h k => Rd.extV h k) | exact (fun _ _ _ h k => RB.extV h k) | exact (fun _ _ _ h k => E0.ext h k) | exact (fun _ _ _ h k => O0.ext h k)) ?_ ?_
  · intro a w' hR h1 h2 h3 K hK
    have e1 : _ = _ := h1
    have e2 : _ = _ := h2
    have e3 : _ = _ := h3
    have q1 : a.tmps[11]?.getD undef = .int .i64 (cmpI x1 y1) := by simpa using e1
    have q2 : a.tmps[18]?.getD undef = .int .i64 (cmpI x2 y2) := by simpa using e2
    have q3 : a.tmps[23]?.getD undef = .int .i64 (Mom.cmp (x3, x4) (y3, y4)) := by simpa using e3
    go_simp
    exact hK _ _ ((GrownW.refl _).alloc _) (Rd.lit _ #[.int .i64 (cmpI x1 y1), .int .i64 (cmpI x2 y2), .int .i64 (Mom.cmp (x3, x4) (y3, y4))] _ 3 rfl (by unfold maxLen; omega))
  refine wpY_call (fun v _ => v = .int .i64 (orI (cmpI x1 y1) (orI (cmpI x2 y2) (Mom.cmp (x3, x4) (y3, y4))))) rfl rfl (by first | exact runs0 | exact runs1 rfl) rfl (by first | exact mono_eq | exact (fun _ _ _ h k => Rd.ext h k) | exact (fun _ _ _ h k => RB.ext h k) | exact (fun _ _ _ h k => OB.ext h k) | exact (fun _ _ _ h k => RB.extS h k) | exact (fun _ _ _ h k => Rd.ext h (GrownW.ext k)) | exact (fun _ _ _ h k => RP.ext h k) | exact (fun _ _ _ h k => OP.ext h k) | exact (fun _ _ _ h k => Rd.extV h k) | exact (fun _ _ _ h k => RB.extV h k) | exact (fun _ _ _ h k => E0.ext h k) | exact (fun _ _ _ h k => O0.ext h k)) ?_ ?_
  · intro a w' hR h1 K hK
    obtain ⟨x, ex, fx⟩ : ∃ x, a.tmps.getD 24 undef = x ∧ (fun v w2 => Rd w2 1 v 3 [.int .i64 (cmpI x1 y1), .int .i64 (cmpI x2 y2), .int .i64 (Mom.cmp (x3, x4) (y3, y4))]) x w' := ⟨_, rfl, h1⟩
    go_simp
    refine (or3_any _ _ _ _ w' fx).mono ?_
    rintro e w2 ⟨rfl, rfl⟩
    exact hK _ _ (GrownW.refl _) rfl
  repeat (first | (refine wpY_move0 rfl rfl (by first | exact runs0 | exact runs1 rfl) GrownW.refl rfl rfl rfl ?_; apply Exists.intro; refine ⟨?_, ?_⟩; · (go_simp; rfl)) | (refine wpY_move rfl rfl (by first | exact runs0 | exact runs1 rfl) GrownW.refl rfl rfl rfl (fun _ _ _ h _ => h) ?_) | (refine wpY_val rfl rfl (by first | exact runs0 | exact runs1 rfl) GrownW.refl rfl ?_; apply Exists.intro; refine ⟨?_, ?_⟩; · (intro a w' hR; intro h1; (first | (have e1 : _ = _ := h1) | skip); intro h2; (first | (have e2 : _ = _ := h2) | skip); go_simp; rfl)) | (refine wpY_val rfl rfl (by first | exact runs0 | exact runs1 rfl) GrownW.refl rfl ?_; apply Exists.intro; refine ⟨?_, ?_⟩; · (intro a w' hR; intro h1; (first | (have e1 : _ = _ := h1) | skip); go_simp; rfl)) | (refine wpY_val rfl rfl (by first | exact runs0 | exact runs1 rfl) GrownW.refl rfl ?_; apply Exists.intro; refine ⟨?_, ?_⟩; · (intro a w' hR; go_simp; rfl)) | (refine wpY_val rfl rfl (by first | exact runs0 | exact runs1 rfl) GrownW.refl rfl ?_; apply Exists.intro; refine ⟨?_, ?_⟩; · (intro a w' hR; intro h1; (first | (have e1 : _ = _ := h1) | skip); intro h2; (first | (have e2 : _ = _ := h2) | skip); intro h3; (first | (have e3 : _ = _ := h3) | skip); go_simp; rfl)) | (refine wpY_skip rfl rfl (by first | exact .inl rfl | exact .inr rfl) ?_))
  refine wpY_done ?_
  intro w5 hx5 hS
  iterate 19 (rintro _ rfl)
  iterate 1 (intro _ hz; clear hz)
  iterate 2 (rintro _ rfl)
  dsimp only [FinV]
  go_simp
  go_wp2
  go_ret
  rw [HC.out]
  exact ⟨rfl, hx.trans hx5⟩

/-! ### in order -/
theorem ltS (x y : Cnt.S) : Go.Proofs.ltOf (fun x y : Cnt.S => Cnt.kcmp x.1 y.1) x y = true ↔ Cnt.klt x.1 y.1 := by
  unfold Go.Proofs.ltOf
  simp only [decide_eq_true_eq]
  exact Cnt.kcmp_lt
theorem ltS_f (x y : Cnt.S) : Go.Proofs.ltOf (fun x y : Cnt.S => Cnt.kcmp x.1 y.1) x y = false ↔ ¬ Cnt.klt x.1 y.1 := by
  rw [← ltS, Bool.not_eq_true]
theorem swoS : Go.Sort.SWO (Go.Proofs.ltOf (fun x y : Cnt.S => Cnt.kcmp x.1 y.1)) where
  irrefl x := by rw [ltS_f]; exact Cnt.klt_irrefl _
  trans x y z h1 h2 := by rw [ltS] at *; exact Cnt.klt_trans h1 h2
  ntrans x y z h1 h2 := by
    rw [ltS_f] at *
    intro h3
    rcases Cnt.klt_conn x.1 y.1 with h | h | h
    · exact h1 h
    · rw [h] at h3; exact h2 h3
    · rcases Cnt.klt_conn y.1 z.1 with k | k | k
      · exact h2 k
      · rw [k] at h; exact Cnt.klt_irrefl _ (Cnt.klt_trans h h3)
      · exact Cnt.klt_irrefl _ (Cnt.klt_trans h3 (Cnt.klt_trans k h))
theorem cmpLaysS (blk off size : Nat) (w : World) : Go.Proofs.CmpLays Try.prog 26 #[] encS.enc 5 (fun x y : Cnt.S => Cnt.kcmp x.1 y.1) blk off size w :=
  fun _ _ _ _ x y => order_any x y _
theorem sortS_any (v : Value) (l : List Cnt.S) (base : Nat) (w : World) (ho : OE 34 base w v l) (hl : l.length ≤ 1000000000) :
    Calls Try.prog 25 #[v, .func (.func 26) #[] #[]] w fun e w' =>
      e = .returned (.tuple #[]) ∧ ∃ s : List Cnt.S, s.Perm l ∧ s.Pairwise (fun a b => ¬ Cnt.klt b.1 a.1) ∧ OE 34 base w' v s ∧ w.grownBy w' v.ownBlock := by
  rcases ho.own.2 with ⟨rfl, h0⟩ | ⟨g, cap, cur, rfl, hb, _⟩
  · obtain rfl := List.eq_nil_of_length_eq_zero h0
    refine (AnyF.slices_SortFunc_none Try.sortS none 0 _ w).mono ?_
    rintro e w' ⟨h1, rfl⟩
    exact ⟨h1, [], List.Perm.refl _, List.Pairwise.nil, OE.nilS _ _ _, World.grownBy.refl _ _⟩
  · have eg : ∀ args w, (callFunc 26 args).run Try.prog w = .ok (.enter 26 args) w := enters_of Try.func26 (by kernel_rfl) rfl
    have hown : w.ownsRow base 34 5 (.slice (some ⟨g, 0, none⟩) l.length cap) l.length (l.flatMap encS.enc) := ho.own
    have hH := holdsK_of_own (enc := encS.enc) encS.len encS.pos hown
    have hcon := AnyQ.slices_SortFunc Try.sortS 5 Try.isAgg34 Try.sizeOf34 encS.enc encS.len encS.one (fun x y : Cnt.S => Cnt.kcmp x.1 y.1) swoS 26 #[] g 0 cap l.toArray w eg
      (cmpLaysS g 0 _ w) hH (hown.lt g rfl).2 (by simp; omega)
    refine hcon.mono ?_
    rintro e w' ⟨h1, d', n, os, hp, hs, hw⟩
    have hsz : d'.size = l.length := by have := hp.1; simpa using this
    obtain ⟨q1, q2⟩ := own_sorted (enc := encS.enc) encS.len encS.pos hown hsz hw
    refine ⟨h1, d'.toList, by simpa using perm_of hp, (sorted_of hs (by simpa using hsz)).imp (fun {a b} h => (ltS_f _ _).1 h), ?_, q2⟩
    unfold OE
    rw [show d'.toList.length = l.length by simpa using hsz]
    exact q1
theorem sorted_is {s l L : List Cnt.S} (hp : s.Perm l) (hs : s.Pairwise fun a b => ¬ Cnt.klt b.1 a.1) (hn : (l.map (·.1)).Nodup) (hg : Cnt.Good L) (h : ∀ x, x ∈ l ↔ x ∈ L) : s = L := by
  refine Cnt.asc_eq ?_ hg.asc fun x => by rw [hp.mem_iff, h]
  have hn2 : (s.map (·.1)).Nodup := (hp.map (·.1)).nodup_iff.2 hn
  rw [List.nodup_iff_pairwise_ne, List.pairwise_map] at hn2
  refine (hs.and hn2).imp fun {a b} hh => ?_
  rcases Cnt.klt_conn a.1 b.1 with q | q | q
  · exact q
  · exact absurd q hh.2
  · exact absurd q hh.1

theorem nodup_of_keys {l : List Cnt.S} (h : (l.map (·.1)).Nodup) : l.Nodup := by
  rw [List.nodup_iff_pairwise_ne] at h ⊢
  rw [List.pairwise_map] at h
  exact h.imp fun {a b} hh q => hh (by rw [q])
theorem iter_seen {κ ν : Type} {kV : κ → Value} {vV : ν → Value} {w : World} {r b : Nat} {es : Array MapEntry} {clock : Nat} {l : List (κ × ν)} {seen : Array Nat} (h : Iter kV vV w r b es clock l seen) : w.iterSeen r = seen := by
  unfold World.iterSeen; rw [h.it]
theorem iter_own {κ ν α : Type} [Enc α] {kV : κ → Value} {vV : ν → Value} {w w' : World} {r b : Nat} {es : Array MapEntry} {clock : Nat} {l : List (κ × ν)} {seen : Array Nat} (h : Iter kV vV w r b es clock l seen)
    {E base : Nat} {v : Value} {S : List α} (ho : OE E base w v S) (hg : w.grownBy w' v.ownBlock) : Iter kV vV w' r b es clock l seen := by
  have key : ∀ (k : Nat) (o : Obj), w.heap[k]? = some o → (∀ cs t m, o ≠ .cells cs t m) → w'.heap[k]? = w.heap[k]? := by
    intro k o hk hno
    refine hg.block k (Array.getElem?_eq_some_iff.1 hk).1 fun q => ?_
    rcases ho.own.2 with ⟨rfl, _⟩ | ⟨g, cap, cur, rfl, hb, hh, _⟩
    · cases q
    · injection q with q
      subst q
      rw [hk] at hh
      injection hh with hh
      exact hno _ _ _ hh
  exact ⟨(key _ _ h.it (by intro _ _ _ q; cases q)).trans h.it, (key _ _ h.map (by intro _ _ _ q; cases q)).trans h.map, h.ent, h.born, h.old⟩
theorem stamp_lit (w : World) (k1 k2 k3 k4 n : Int) : RE ((w.alloc (.cells #[.int .i64 k1, .int .i64 k2, .int .i64 k3, .int .i64 k4] 52)).alloc (.cells #[.int .i64 k1, .int .i64 k2, .int .i64 k3, .int .i64 k4, .int .i64 n] 34))
    (.slice (some ⟨w.heap.size + 1, 0, none⟩) 1 1) [(((k1, k2), k3, k4), n)] := by
  have h := RE.lit (w.alloc (.cells #[.int .i64 k1, .int .i64 k2, .int .i64 k3, .int .i64 k4] 52)) #[.int .i64 k1, .int .i64 k2, .int .i64 k3, .int .i64 k4, .int .i64 n] 34 1 [(((k1, k2), k3, k4), n)] rfl (by omega) rfl
  rwa [show (w.alloc (.cells #[.int .i64 k1, .int .i64 k2, .int .i64 k3, .int .i64 k4] 52)).heap.size = w.heap.size + 1 by simp] at h
theorem ExtM.grown {b : Nat} {w w' : World} (h : ExtM b w w') : w.grownBy w' (some b) :=
  ⟨h.os, h.tape, h.output, h.size, fun k hk hne => h.block k hk fun q => hne (by rw [q])⟩
theorem OE.extM {α : Type} [Enc α] {E base r : Nat} {w w' : World} {v : Value} {l : List α} (h : OE E base w v l) (he : ExtM r w w') (hr : ∀ cs t m, w.heap[r]? ≠ some (.cells cs t m)) : OE E base w' v l := by
  refine h.grown (ExtM.grown he) fun k hk q => ?_
  injection q with q
  subst q
  rcases h.own.2 with ⟨rfl, _⟩ | ⟨g, cap, cur, rfl, hb, hh, _⟩
  · cases hk
  · injection hk with hk
    subst hk
    exact hr _ _ _ hh
theorem stamp_cells (w : World) (k1 k2 k3 k4 : Int) : Ext w (w.alloc (.cells #[.int .i64 k1, .int .i64 k2, .int .i64 k3, .int .i64 k4] 52)) ∧
    (w.alloc (.cells #[.int .i64 k1, .int .i64 k2, .int .i64 k3, .int .i64 k4] 52)).cell? ⟨w.heap.size, 0, none⟩ = some (.int .i64 k1) ∧ (w.alloc (.cells #[.int .i64 k1, .int .i64 k2, .int .i64 k3, .int .i64 k4] 52)).cell? ⟨w.heap.size, 1, none⟩ = some (.int .i64 k2) ∧
    (w.alloc (.cells #[.int .i64 k1, .int .i64 k2, .int .i64 k3, .int .i64 k4] 52)).cell? ⟨w.heap.size, 2, none⟩ = some (.int .i64 k3) ∧ (w.alloc (.cells #[.int .i64 k1, .int .i64 k2, .int .i64 k3, .int .i64 k4] 52)).cell? ⟨w.heap.size, 3, none⟩ = some (.int .i64 k4) := by
  have h := Blk.new w 52 #[.int .i64 k1, .int .i64 k2, .int .i64 k3, .int .i64 k4]
  exact ⟨(Ext.refl _).alloc _, h.cell 0, h.cell 1, h.cell 2, h.cell 3⟩

set_option maxRecDepth 100000 in
set_option maxHeartbeats 2000000 in
theorem stamps_nil (w : World) : Calls Try.prog 15 #[.pointer none] w fun e w' => e = .returned (.slice none 0 0) ∧ w = w' := by
  go_enter Try.func15, Try.ntmps15
  go_wp2_with fail
  refine (made_nil _).mono ?_
  rintro e w1 ⟨rfl, rfl⟩
  go_wp2
  go_ret
  exact ⟨rfl, rfl⟩
set_option maxRecDepth 100000 in
set_option maxHeartbeats 2000000 in
theorem stamps_any (w : World) (g b : Nat) (L : List Cnt.S) (h : CM w g b L) (hl : L.length ≤ 1000000) :
    Calls Try.prog 15 #[.pointer (some ⟨g, 0, none⟩)] w fun e w' => ∃ v, e = .returned v ∧ OE 34 w.heap.size w' v L ∧ Ext w w' := by
  have HM := Lib.hid (made_any w g b L h)
  have c0 : w.cell? ⟨g, 0, none⟩ = some (.map (some b)) := h.box.cell 0
  obtain ⟨l, hm, hmem⟩ := h.map
  have hlt := hm.lt
  have hnd := hm.nodup
  obtain ⟨es, clock, hr, hit, hlen⟩ := hm.range (t := 47) Try.underlying47
  have hll : l.length = L.length := by
    have h1 := Cnt.asc_nodup h.good.asc
    have hp : l.Perm L := (List.perm_ext_iff_of_nodup (nodup_of_keys hnd) (nodup_of_keys h1)).2 hmem
    exact hp.length_eq
  have HIT := Lib.hid hit
  have HLEN := Lib.hid hlen
  have HSI := Lib.hid (fun (s : List Cnt.S) (hp : s.Perm l) hs => sorted_is hp hs hnd h.good hmem)
  have HLL := Lib.hid hll
  have HLT := Lib.hid hlt
  clear h hm hlt hnd hit hlen hmem hll
  go_enter Try.func15, Try.ntmps15
  go_wp2_with fail
  refine HM.out.mono ?_
  rintro e w1 ⟨rfl, rfl⟩
  go_wp2
  have HW := Lib.hid (show Ext w (w.alloc (.mapIter (some b) clock #[] clock)) from (Ext.refl _).alloc _)
  clear hr c0
  generalize w.alloc (.mapIter (some b) clock #[] clock) = w0 at *
  go_loopw [3] (fun o wr => ∃ seen S, Iter kV vI wr w.heap.size b es clock l seen ∧ S.Perm (came es l seen) ∧ OE 34 w.heap.size wr o S ∧ Ext w wr) (fun _ wr => (leftOf es (wr.iterSeen w.heap.size)).size)
  case atStart => exact ⟨#[], [], HIT.out, by rw [came_none], OE.nilS _ _ _, HW.out⟩
  case round =>
    obtain ⟨seen, S, hit, hp, ho, hext⟩ := hrel
    rename World => wA
    have HP := Lib.hid hp
    have HO := Lib.hid ho
    have HX := Lib.hid hext
    have hsn : wA.iterSeen w.heap.size = seen := by unfold World.iterSeen; rw [hit.it]
    have HSN := Lib.hid hsn
    rcases hit.next (Nat.ne_of_gt HLT.out) 0 with ⟨h0, hrun⟩ | ⟨x, w1, seen', hrun, hit1, hx1, hlt1, hp1, hent⟩
    · have hrun : ∀ ty, (Instr.next (.pointer (some ⟨w.heap.size, 0, none⟩)) false ty).run Try.prog wA = .ok (.tuple #[.bool false]) wA := fun _ => hrun
      have hall := came_all HLEN.out h0
      have HSL := Lib.hid (show S.Perm l by rw [← hall]; exact HP.out)
      obtain ⟨A9, c9, rfl⟩ := HO.out.re.form
      have hSl : S.length ≤ 1000000000 := by have := HSL.out.length_eq; have := HLL.out; omega
      clear h0 hall hp ho hext hit hsn
      go_wp2_with fail
      refine (sortS_any _ S w.heap.size wA HO.out hSl).mono ?_
      rintro e w2 ⟨rfl, s, hps, hss, ho2, hg2⟩
      have hsL := HSI.out s (hps.trans HSL.out) hss
      subst hsL
      go_wp2
      go_ret
      exact ⟨_, rfl, ho2, HX.out.grown hg2 fun k hk => (HO.out.own.lt k hk).1⟩
    · have hrun : ∀ ty, (Instr.next (.pointer (some ⟨w.heap.size, 0, none⟩)) false ty).run Try.prog wA = .ok (.tuple #[.bool true, kV x.1, vI x.2]) w1 := fun _ => hrun
      have ho1 := OE.extM HO.out hx1 (by rw [hit.it]; intro _ _ _ q; cases q)
      have hSl : S.length ≤ 1000000 := by
        have h1 := HP.out.length_eq
        have h2 : (came es l seen).length ≤ l.length := by
          unfold came
          rw [List.length_map]
          refine Nat.le_trans (List.length_filter_le _ _) ?_
          rw [List.length_zip]; omega
        have := HLL.out
        omega
      have HO1 := Lib.hid ho1
      have HX1 := Lib.hid (HX.out.andM hx1 (Nat.le_refl _))
      have HI1 := Lib.hid hit1
      have HL1 := Lib.hid hlt1
      have HP1 := Lib.hid ((HP.out.append_right [x]).trans hp1.symm)
      obtain ⟨⟨⟨x1, x2⟩, x3, x4⟩, x5⟩ := x
      dsimp only [kV, vI] at hrun hent
      obtain ⟨A9, c9, rfl⟩ := HO1.out.re.form
      obtain ⟨hxk, k1, k2, k3, k4⟩ := stamp_cells w1 x1 x2 x3 x4
      have HXK := Lib.hid hxk
      clear hp ho hext hit hsn ho1 hx1 hit1 hlt1 hp1 hxk
      have HLT2 := Lib.hid (stamp_lit w1 x1 x2 x3 x4 x5)
      have hxs : Ext w1 ((w1.alloc (.cells #[.int .i64 x1, .int .i64 x2, .int .i64 x3, .int .i64 x4] 52)).alloc (.cells #[.int .i64 x1, .int .i64 x2, .int .i64 x3, .int .i64 x4, .int .i64 x5] 34)) := ((Ext.refl _).alloc _).alloc _
      have HXS := Lib.hid hxs
      have HO2 := Lib.hid (HO1.out.ext hxs)
      have HI2 := Lib.hid (HI1.out.ext hxs)
      have HX2 := Lib.hid (HX1.out.trans hxs)
      clear hxs
      go_wp2_with (at_builtin; refine wpList_appE rfl elemS _ _ _ rfl w.heap.size _ _ S [(((x1, x2), x3, x4), x5)] rfl HO2.out rfl HLT2.out (by simp only [List.length_singleton]; omega) (by simp only [List.length_singleton]; unfold maxLen; omega) HX2.out.size ?_; intro v6 w6 ho6 hb6 hg6)
      have hi6 := iter_own HI2.out HO2.out hg6
      refine ⟨⟨seen', S ++ [(((x1, x2), x3, x4), x5)], hi6, HP1.out, ho6, Below.trans HX2.out hb6⟩, ?_⟩
      rw [iter_seen hi6, HSN.out]
      exact HL1.out
end Go.Proofs.Ytngdlahgihbmhaa
