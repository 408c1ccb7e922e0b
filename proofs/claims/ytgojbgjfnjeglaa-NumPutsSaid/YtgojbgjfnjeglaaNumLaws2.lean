/-
  The statements of layer 1: readings.
-/
import Derived.Test.YtgojbgjfnjeglaaNumLaws
import Derived.Test.YtgojbgjfnjeglaaRdr2
namespace Go.Proofs.Ytgojbgjfnjeglaa
open Go.RowKit Go.Ox
attribute [local irreducible] OB RB

/-- what one read leaves -/
def opP (k n : Int) (s : Num.St) : Num.St :=
  if k = 1 then (Num.numP s).1 else if k = 2 then (Num.fixedP n s).1 else if k = 3 then (Num.bytesP n s).1 else if k = 4 then (Num.textP n s).1 else s
theorem opP_len (k n : Int) (s : Num.St) : (opP k n s).l.length ≤ s.l.length := by
  unfold opP
  split
  · exact Num.numP_len s
  · split
    · exact Num.fixedP_len n s
    · split
      · exact Num.bytesP_len n s
      · split
        · exact Num.textP_len n s
        · exact Nat.le_refl _

/-- behind one read of both -/
def DoPost (g h : Nat) (s : Num.St) (w : World) (e : Ending) (w' : World) : Prop :=
  e = .returned (.bool true) ∧ NR w' g s ∧ RR w' h s ∧ ExtS [g, h] w w'

set_option maxRecDepth 100000 in
set_option maxHeartbeats 1000000 in
theorem do_1 (g h : Nat) (n : Int) (s : Num.St) (w : World) (h1 : NR w g s) (h2 : RR w h s) (hl : s.l.length ≤ 1000000) (hne : g ≠ h) :
    Calls Try.prog 17 #[.pointer (some ⟨g, 0, none⟩), .pointer (some ⟨h, 0, none⟩), .agg #[.int .i64 1, .int .i64 n]] w (DoPost g h (Num.numP s).1 w) := by
  have HN := Lib.hid (fun w h1 => num_any g s w h1 hl)
  have HR := Lib.hid (fun w h1 => rnum_any h s w h1 hl)
  have H1 := Lib.hid h1
  have H2 := Lib.hid h2
  have HD := Lib.hid hne
  clear h1 h2 hne
  generalize Num.numP s = t at *
  go_enter Try.func17, Try.ntmps17
  go_wp2_with (first
    | (go_at_call 22; refine (HN.out _ (H1.out.ext ((Ext.refl _).alloc _))).mono ?_; rintro e w1 ⟨rfl, hr1, he1⟩)
    | (go_at_call 29; refine (HR.out _ (Rdr.extG (H2.out.ext ((Ext.refl _).alloc _)) he1 (Ne.symm HD.out))).mono ?_; rintro e w2 ⟨rfl, hr2, he2⟩))
  go_ret
  exact ⟨rfl, Rdr.extG hr1 he2 HD.out, hr2, (ExtS.of ((Ext.refl _).alloc _)).trans ((he1.toS (by simp)).trans (he2.toS (by simp)))⟩

set_option maxRecDepth 100000 in
set_option maxHeartbeats 1000000 in
theorem do_2 (g h : Nat) (n : Int) (s : Num.St) (w : World) (h1 : NR w g s) (h2 : RR w h s) (hl : s.l.length ≤ 1000000) (hne : g ≠ h) :
    Calls Try.prog 17 #[.pointer (some ⟨g, 0, none⟩), .pointer (some ⟨h, 0, none⟩), .agg #[.int .i64 2, .int .i64 n]] w (DoPost g h (Num.fixedP n s).1 w) := by
  have HN := Lib.hid (fun w h1 => fixed_any g n s w h1 hl)
  have HR := Lib.hid (fun w h1 => rfixed_any h n s w h1 hl)
  have H1 := Lib.hid (h1.ext ((Ext.refl _).alloc (.cells #[.int .i64 2, .int .i64 n] 42)))
  have H2 := Lib.hid (h2.ext ((Ext.refl _).alloc (.cells #[.int .i64 2, .int .i64 n] 42)))
  have HD := Lib.hid hne
  clear h1 h2 hne
  generalize Num.fixedP n s = t at *
  go_enter Try.func17, Try.ntmps17
  go_wp2
  have hc : (w.alloc (.cells #[.int .i64 2, .int .i64 n] 42)).cell? ⟨w.heap.size, 1, none⟩ = some (.int .i64 n) := (Blk.new _ _ _).cell 1
  refine wp_regionY [21, 25] [] Ext (ExtS [g, h]) (fun w => NR w g s ∧ RR w h s) (by kernel_rfl) (by rfl) (by rfl) (by kernel_rfl) (by kernel_rfl) (by kernel_rfl) (fun _ _ _ x y => x.trans y) (ExtS.refl _) (fun _ _ x => ExtS.of x) (Ext.refl _).drew (fun _ _ x y => ⟨x.1.ext y, x.2.ext y⟩) (⟨H1.out, H2.out⟩) ?_
  repeat (first | (refine wpY_move0 rfl rfl (by first | exact runs0 | exact runs1 rfl) Ext.refl rfl rfl rfl ?_; apply Exists.intro; refine ⟨?_, ?_⟩; · (go_simp; rfl)) | (refine wpY_move rfl rfl (by first | exact runs0 | exact runs1 rfl) Ext.refl rfl rfl rfl (fun _ _ _ h _ => h) ?_) | (refine wpY_val rfl rfl (by first | exact runs0 | exact runs1 rfl) Ext.refl rfl ?_; apply Exists.intro; refine ⟨?_, ?_⟩; · (intro a w' hR; intro h1; (first | (have e1 : _ = _ := h1) | skip); intro h2; (first | (have e2 : _ = _ := h2) | skip); go_simp; rfl)) | (refine wpY_val rfl rfl (by first | exact runs0 | exact runs1 rfl) Ext.refl rfl ?_; apply Exists.intro; refine ⟨?_, ?_⟩; · (intro a w' hR; intro h1; (first | (have e1 : _ = _ := h1) | skip); go_simp; rfl)) | (refine wpY_val rfl rfl (by first | exact runs0 | exact runs1 rfl) Ext.refl rfl ?_; apply Exists.intro; refine ⟨?_, ?_⟩; · (intro a w' hR; go_simp; rfl)) | (refine wpY_val rfl rfl (by first | exact runs0 | exact runs1 rfl) Ext.refl rfl ?_; apply Exists.intro; refine ⟨?_, ?_⟩; · (intro a w' hR; intro h1; (first | (have e1 : _ = _ := h1) | skip); intro h2; (first | (have e2 : _ = _ := h2) | skip); intro h3; (first | (have e3 : _ = _ := h3) | skip); go_simp; rfl)) | (refine wpY_skip rfl rfl (by first | exact .inl rfl | exact .inr rfl) ?_))
  refine wpY_val rfl rfl (by first | exact runs0 | exact runs1 rfl) Ext.refl rfl ?_; apply Exists.intro; refine ⟨?_, ?_⟩
  · intro a w' hR h1
    have e1 : _ = _ := h1
    have hl := hR.ints _ _ _ hc
    go_simp
    rfl
  refine wpY_eff (fun v _ => v = .int .i64 (t.2 : Nat)) (fun w => NR w g t.1 ∧ RR w h s) rfl (by first | exact runs0 | exact runs1 rfl) rfl (by first | exact mono_eq | exact (fun _ _ _ h k => RB.extS h k) | exact (fun _ _ _ h k => Rd.extV h k) | exact (fun _ _ _ h k => RB.extV h k)) (fun _ _ x y => ⟨x.1.ext y, x.2.ext y⟩) ?_ ?_
  · intro a w' hR hS h1 h2 K hK
    have e1 : _ = _ := h1
    have e2 : _ = _ := h2
    go_simp
    refine (HN.out w' hS.1).mono ?_
    rintro e w2 ⟨rfl, hr, he⟩
    exact hK _ _ (he.toS (by simp)) ⟨hr, Rdr.extG hS.2 he (Ne.symm HD.out)⟩ rfl
  repeat (first | (refine wpY_move0 rfl rfl (by first | exact runs0 | exact runs1 rfl) Ext.refl rfl rfl rfl ?_; apply Exists.intro; refine ⟨?_, ?_⟩; · (go_simp; rfl)) | (refine wpY_move rfl rfl (by first | exact runs0 | exact runs1 rfl) Ext.refl rfl rfl rfl (fun _ _ _ h _ => h) ?_) | (refine wpY_val rfl rfl (by first | exact runs0 | exact runs1 rfl) Ext.refl rfl ?_; apply Exists.intro; refine ⟨?_, ?_⟩; · (intro a w' hR; intro h1; (first | (have e1 : _ = _ := h1) | skip); intro h2; (first | (have e2 : _ = _ := h2) | skip); go_simp; rfl)) | (refine wpY_val rfl rfl (by first | exact runs0 | exact runs1 rfl) Ext.refl rfl ?_; apply Exists.intro; refine ⟨?_, ?_⟩; · (intro a w' hR; intro h1; (first | (have e1 : _ = _ := h1) | skip); go_simp; rfl)) | (refine wpY_val rfl rfl (by first | exact runs0 | exact runs1 rfl) Ext.refl rfl ?_; apply Exists.intro; refine ⟨?_, ?_⟩; · (intro a w' hR; go_simp; rfl)) | (refine wpY_val rfl rfl (by first | exact runs0 | exact runs1 rfl) Ext.refl rfl ?_; apply Exists.intro; refine ⟨?_, ?_⟩; · (intro a w' hR; intro h1; (first | (have e1 : _ = _ := h1) | skip); intro h2; (first | (have e2 : _ = _ := h2) | skip); intro h3; (first | (have e3 : _ = _ := h3) | skip); go_simp; rfl)) | (refine wpY_skip rfl rfl (by first | exact .inl rfl | exact .inr rfl) ?_))
  refine wpY_val rfl rfl (by first | exact runs0 | exact runs1 rfl) Ext.refl rfl ?_; apply Exists.intro; refine ⟨?_, ?_⟩
  · intro a w' hR h1
    have e1 : _ = _ := h1
    have hl := hR.ints _ _ _ hc
    go_simp
    rfl
  refine wpY_eff (fun v _ => v = .int .i64 (t.2 : Nat)) (fun w => NR w g t.1 ∧ RR w h t.1) rfl (by first | exact runs0 | exact runs1 rfl) rfl (by first | exact mono_eq | exact (fun _ _ _ h k => RB.extS h k) | exact (fun _ _ _ h k => Rd.extV h k) | exact (fun _ _ _ h k => RB.extV h k)) (fun _ _ x y => ⟨x.1.ext y, x.2.ext y⟩) ?_ ?_
  · intro a w' hR hS h1 h2 K hK
    have e1 : _ = _ := h1
    have e2 : _ = _ := h2
    go_simp
    refine (HR.out w' hS.2).mono ?_
    rintro e w2 ⟨rfl, hr, he⟩
    exact hK _ _ (he.toS (by simp)) ⟨Rdr.extG hS.1 he HD.out, hr⟩ rfl
  repeat (first | (refine wpY_move0 rfl rfl (by first | exact runs0 | exact runs1 rfl) Ext.refl rfl rfl rfl ?_; apply Exists.intro; refine ⟨?_, ?_⟩; · (go_simp; rfl)) | (refine wpY_move rfl rfl (by first | exact runs0 | exact runs1 rfl) Ext.refl rfl rfl rfl (fun _ _ _ h _ => h) ?_) | (refine wpY_val rfl rfl (by first | exact runs0 | exact runs1 rfl) Ext.refl rfl ?_; apply Exists.intro; refine ⟨?_, ?_⟩; · (intro a w' hR; intro h1; (first | (have e1 : _ = _ := h1) | skip); intro h2; (first | (have e2 : _ = _ := h2) | skip); go_simp; rfl)) | (refine wpY_val rfl rfl (by first | exact runs0 | exact runs1 rfl) Ext.refl rfl ?_; apply Exists.intro; refine ⟨?_, ?_⟩; · (intro a w' hR; intro h1; (first | (have e1 : _ = _ := h1) | skip); go_simp; rfl)) | (refine wpY_val rfl rfl (by first | exact runs0 | exact runs1 rfl) Ext.refl rfl ?_; apply Exists.intro; refine ⟨?_, ?_⟩; · (intro a w' hR; go_simp; rfl)) | (refine wpY_val rfl rfl (by first | exact runs0 | exact runs1 rfl) Ext.refl rfl ?_; apply Exists.intro; refine ⟨?_, ?_⟩; · (intro a w' hR; intro h1; (first | (have e1 : _ = _ := h1) | skip); intro h2; (first | (have e2 : _ = _ := h2) | skip); intro h3; (first | (have e3 : _ = _ := h3) | skip); go_simp; rfl)) | (refine wpY_skip rfl rfl (by first | exact .inl rfl | exact .inr rfl) ?_))
  refine wpY_done ?_
  intro w1 hx hS
  iterate 10 (rintro _ rfl)
  dsimp only [FinV]
  go_simp
  go_wp2
  go_ret
  exact ⟨rfl, hS.1, hS.2, (ExtS.of ((Ext.refl _).alloc _)).trans hx⟩

set_option maxRecDepth 100000 in
set_option maxHeartbeats 1000000 in
theorem do_3 (g h : Nat) (n : Int) (s : Num.St) (w : World) (h1 : NR w g s) (h2 : RR w h s) (hl : s.l.length ≤ 1000000) (hne : g ≠ h) :
    Calls Try.prog 17 #[.pointer (some ⟨g, 0, none⟩), .pointer (some ⟨h, 0, none⟩), .agg #[.int .i64 3, .int .i64 n]] w (DoPost g h (Num.bytesP n s).1 w) := by
  have HN := Lib.hid (fun w h1 => bytes_any g n s w h1 hl)
  have HR := Lib.hid (fun w h1 => rbytes_any h n s w h1 hl)
  have H1 := Lib.hid (h1.ext ((Ext.refl _).alloc (.cells #[.int .i64 3, .int .i64 n] 42)))
  have H2 := Lib.hid (h2.ext ((Ext.refl _).alloc (.cells #[.int .i64 3, .int .i64 n] 42)))
  have HD := Lib.hid hne
  clear h1 h2 hne
  generalize Num.bytesP n s = t at *
  go_enter Try.func17, Try.ntmps17
  go_wp2
  have hc : (w.alloc (.cells #[.int .i64 3, .int .i64 n] 42)).cell? ⟨w.heap.size, 1, none⟩ = some (.int .i64 n) := (Blk.new _ _ _).cell 1
  refine wp_regionY [32, 37] [] Ext (ExtS [g, h]) (fun w => NR w g s ∧ RR w h s) (by kernel_rfl) (by rfl) (by rfl) (by kernel_rfl) (by kernel_rfl) (by kernel_rfl) (fun _ _ _ x y => x.trans y) (ExtS.refl _) (fun _ _ x => ExtS.of x) (Ext.refl _).drew (fun _ _ x y => ⟨x.1.ext y, x.2.ext y⟩) (⟨H1.out, H2.out⟩) ?_
  repeat (first | (refine wpY_move0 rfl rfl (by first | exact runs0 | exact runs1 rfl) Ext.refl rfl rfl rfl ?_; apply Exists.intro; refine ⟨?_, ?_⟩; · (go_simp; rfl)) | (refine wpY_move rfl rfl (by first | exact runs0 | exact runs1 rfl) Ext.refl rfl rfl rfl (fun _ _ _ h _ => h) ?_) | (refine wpY_val rfl rfl (by first | exact runs0 | exact runs1 rfl) Ext.refl rfl ?_; apply Exists.intro; refine ⟨?_, ?_⟩; · (intro a w' hR; intro h1; (first | (have e1 : _ = _ := h1) | skip); intro h2; (first | (have e2 : _ = _ := h2) | skip); go_simp; rfl)) | (refine wpY_val rfl rfl (by first | exact runs0 | exact runs1 rfl) Ext.refl rfl ?_; apply Exists.intro; refine ⟨?_, ?_⟩; · (intro a w' hR; intro h1; (first | (have e1 : _ = _ := h1) | skip); go_simp; rfl)) | (refine wpY_val rfl rfl (by first | exact runs0 | exact runs1 rfl) Ext.refl rfl ?_; apply Exists.intro; refine ⟨?_, ?_⟩; · (intro a w' hR; go_simp; rfl)) | (refine wpY_val rfl rfl (by first | exact runs0 | exact runs1 rfl) Ext.refl rfl ?_; apply Exists.intro; refine ⟨?_, ?_⟩; · (intro a w' hR; intro h1; (first | (have e1 : _ = _ := h1) | skip); intro h2; (first | (have e2 : _ = _ := h2) | skip); intro h3; (first | (have e3 : _ = _ := h3) | skip); go_simp; rfl)) | (refine wpY_skip rfl rfl (by first | exact .inl rfl | exact .inr rfl) ?_))
  refine wpY_val rfl rfl (by first | exact runs0 | exact runs1 rfl) Ext.refl rfl ?_; apply Exists.intro; refine ⟨?_, ?_⟩
  · intro a w' hR h1
    have e1 : _ = _ := h1
    have hl := hR.ints _ _ _ hc
    go_simp
    rfl
  refine wpY_eff (fun v w2 => RB w2 v t.2) (fun w => NR w g t.1 ∧ RR w h s) rfl (by first | exact runs0 | exact runs1 rfl) rfl (by first | exact mono_eq | exact (fun _ _ _ h k => RB.extS h k) | exact (fun _ _ _ h k => Rd.extV h k) | exact (fun _ _ _ h k => RB.extV h k)) (fun _ _ x y => ⟨x.1.ext y, x.2.ext y⟩) ?_ ?_
  · intro a w' hR hS h1 h2 K hK
    have e1 : _ = _ := h1
    have e2 : _ = _ := h2
    go_simp
    refine (HN.out w' hS.1).mono ?_
    rintro e w2 ⟨v, rfl, ho, hr, he⟩
    exact hK _ _ (he.toS (by simp)) ⟨hr, Rdr.extG hS.2 he (Ne.symm HD.out)⟩ ho.rb
  refine wpY_val rfl rfl (by first | exact runs0 | exact runs1 rfl) Ext.refl rfl ?_; apply Exists.intro; refine ⟨?_, ?_⟩
  · intro a w' hR h1
    obtain ⟨x, ex, fx⟩ : ∃ x, a.tmps.getD 32 undef = x ∧ (fun v w2 => RB w2 v t.2) x w' := ⟨_, rfl, h1⟩
    have hs := strB fx
    go_simp
    rfl
  repeat (first | (refine wpY_move0 rfl rfl (by first | exact runs0 | exact runs1 rfl) Ext.refl rfl rfl rfl ?_; apply Exists.intro; refine ⟨?_, ?_⟩; · (go_simp; rfl)) | (refine wpY_move rfl rfl (by first | exact runs0 | exact runs1 rfl) Ext.refl rfl rfl rfl (fun _ _ _ h _ => h) ?_) | (refine wpY_val rfl rfl (by first | exact runs0 | exact runs1 rfl) Ext.refl rfl ?_; apply Exists.intro; refine ⟨?_, ?_⟩; · (intro a w' hR; intro h1; (first | (have e1 : _ = _ := h1) | skip); intro h2; (first | (have e2 : _ = _ := h2) | skip); go_simp; rfl)) | (refine wpY_val rfl rfl (by first | exact runs0 | exact runs1 rfl) Ext.refl rfl ?_; apply Exists.intro; refine ⟨?_, ?_⟩; · (intro a w' hR; intro h1; (first | (have e1 : _ = _ := h1) | skip); go_simp; rfl)) | (refine wpY_val rfl rfl (by first | exact runs0 | exact runs1 rfl) Ext.refl rfl ?_; apply Exists.intro; refine ⟨?_, ?_⟩; · (intro a w' hR; go_simp; rfl)) | (refine wpY_val rfl rfl (by first | exact runs0 | exact runs1 rfl) Ext.refl rfl ?_; apply Exists.intro; refine ⟨?_, ?_⟩; · (intro a w' hR; intro h1; (first | (have e1 : _ = _ := h1) | skip); intro h2; (first | (have e2 : _ = _ := h2) | skip); intro h3; (first | (have e3 : _ = _ := h3) | skip); go_simp; rfl)) | (refine wpY_skip rfl rfl (by first | exact .inl rfl | exact .inr rfl) ?_))
  refine wpY_val rfl rfl (by first | exact runs0 | exact runs1 rfl) Ext.refl rfl ?_; apply Exists.intro; refine ⟨?_, ?_⟩
  · intro a w' hR h1
    have e1 : _ = _ := h1
    have hl := hR.ints _ _ _ hc
    go_simp
    rfl
  refine wpY_eff (fun v w2 => RB w2 v t.2) (fun w => NR w g t.1 ∧ RR w h t.1) rfl (by first | exact runs0 | exact runs1 rfl) rfl (by first | exact mono_eq | exact (fun _ _ _ h k => RB.extS h k) | exact (fun _ _ _ h k => Rd.extV h k) | exact (fun _ _ _ h k => RB.extV h k)) (fun _ _ x y => ⟨x.1.ext y, x.2.ext y⟩) ?_ ?_
  · intro a w' hR hS h1 h2 K hK
    have e1 : _ = _ := h1
    have e2 : _ = _ := h2
    go_simp
    refine (HR.out w' hS.2).mono ?_
    rintro e w2 ⟨v, rfl, ho, hr, he⟩
    exact hK _ _ (he.toS (by simp)) ⟨Rdr.extG hS.1 he HD.out, hr⟩ ho.rb
  refine wpY_val rfl rfl (by first | exact runs0 | exact runs1 rfl) Ext.refl rfl ?_; apply Exists.intro; refine ⟨?_, ?_⟩
  · intro a w' hR h1
    obtain ⟨x, ex, fx⟩ : ∃ x, a.tmps.getD 37 undef = x ∧ (fun v w2 => RB w2 v t.2) x w' := ⟨_, rfl, h1⟩
    have hs := strB fx
    go_simp
    rfl
  repeat (first | (refine wpY_move0 rfl rfl (by first | exact runs0 | exact runs1 rfl) Ext.refl rfl rfl rfl ?_; apply Exists.intro; refine ⟨?_, ?_⟩; · (go_simp; rfl)) | (refine wpY_move rfl rfl (by first | exact runs0 | exact runs1 rfl) Ext.refl rfl rfl rfl (fun _ _ _ h _ => h) ?_) | (refine wpY_val rfl rfl (by first | exact runs0 | exact runs1 rfl) Ext.refl rfl ?_; apply Exists.intro; refine ⟨?_, ?_⟩; · (intro a w' hR; intro h1; (first | (have e1 : _ = _ := h1) | skip); intro h2; (first | (have e2 : _ = _ := h2) | skip); go_simp; rfl)) | (refine wpY_val rfl rfl (by first | exact runs0 | exact runs1 rfl) Ext.refl rfl ?_; apply Exists.intro; refine ⟨?_, ?_⟩; · (intro a w' hR; intro h1; (first | (have e1 : _ = _ := h1) | skip); go_simp; rfl)) | (refine wpY_val rfl rfl (by first | exact runs0 | exact runs1 rfl) Ext.refl rfl ?_; apply Exists.intro; refine ⟨?_, ?_⟩; · (intro a w' hR; go_simp; rfl)) | (refine wpY_val rfl rfl (by first | exact runs0 | exact runs1 rfl) Ext.refl rfl ?_; apply Exists.intro; refine ⟨?_, ?_⟩; · (intro a w' hR; intro h1; (first | (have e1 : _ = _ := h1) | skip); intro h2; (first | (have e2 : _ = _ := h2) | skip); intro h3; (first | (have e3 : _ = _ := h3) | skip); go_simp; rfl)) | (refine wpY_skip rfl rfl (by first | exact .inl rfl | exact .inr rfl) ?_))
  refine wpY_done ?_
  intro w1 hx hS
  iterate 3 (rintro _ rfl)
  iterate 1 (intro _ hz; clear hz)
  iterate 4 (rintro _ rfl)
  iterate 1 (intro _ hz; clear hz)
  iterate 3 (rintro _ rfl)
  dsimp only [FinV]
  go_simp
  go_wp2
  go_ret
  exact ⟨rfl, hS.1, hS.2, (ExtS.of ((Ext.refl _).alloc _)).trans hx⟩

set_option maxRecDepth 100000 in
set_option maxHeartbeats 1000000 in
theorem do_4 (g h : Nat) (n : Int) (s : Num.St) (w : World) (h1 : NR w g s) (h2 : RR w h s) (hl : s.l.length ≤ 1000000) (hne : g ≠ h) :
    Calls Try.prog 17 #[.pointer (some ⟨g, 0, none⟩), .pointer (some ⟨h, 0, none⟩), .agg #[.int .i64 4, .int .i64 n]] w (DoPost g h (Num.textP n s).1 w) := by
  have HN := Lib.hid (fun w h1 => text_r g n s w h1 hl)
  have HR := Lib.hid (fun w h1 => rtext_r h n s w h1 hl)
  have H1 := Lib.hid (h1.ext ((Ext.refl _).alloc (.cells #[.int .i64 4, .int .i64 n] 42)))
  have H2 := Lib.hid (h2.ext ((Ext.refl _).alloc (.cells #[.int .i64 4, .int .i64 n] 42)))
  have HD := Lib.hid hne
  clear h1 h2 hne
  generalize Num.textP n s = t at *
  go_enter Try.func17, Try.ntmps17
  go_wp2
  have hc : (w.alloc (.cells #[.int .i64 4, .int .i64 n] 42)).cell? ⟨w.heap.size, 1, none⟩ = some (.int .i64 n) := (Blk.new _ _ _).cell 1
  refine wp_regionY [45, 49] [] Ext (ExtS [g, h]) (fun w => NR w g s ∧ RR w h s) (by kernel_rfl) (by rfl) (by rfl) (by kernel_rfl) (by kernel_rfl) (by kernel_rfl) (fun _ _ _ x y => x.trans y) (ExtS.refl _) (fun _ _ x => ExtS.of x) (Ext.refl _).drew (fun _ _ x y => ⟨x.1.ext y, x.2.ext y⟩) (⟨H1.out, H2.out⟩) ?_
  repeat (first | (refine wpY_move0 rfl rfl (by first | exact runs0 | exact runs1 rfl) Ext.refl rfl rfl rfl ?_; apply Exists.intro; refine ⟨?_, ?_⟩; · (go_simp; rfl)) | (refine wpY_move rfl rfl (by first | exact runs0 | exact runs1 rfl) Ext.refl rfl rfl rfl (fun _ _ _ h _ => h) ?_) | (refine wpY_val rfl rfl (by first | exact runs0 | exact runs1 rfl) Ext.refl rfl ?_; apply Exists.intro; refine ⟨?_, ?_⟩; · (intro a w' hR; intro h1; (first | (have e1 : _ = _ := h1) | skip); intro h2; (first | (have e2 : _ = _ := h2) | skip); go_simp; rfl)) | (refine wpY_val rfl rfl (by first | exact runs0 | exact runs1 rfl) Ext.refl rfl ?_; apply Exists.intro; refine ⟨?_, ?_⟩; · (intro a w' hR; intro h1; (first | (have e1 : _ = _ := h1) | skip); go_simp; rfl)) | (refine wpY_val rfl rfl (by first | exact runs0 | exact runs1 rfl) Ext.refl rfl ?_; apply Exists.intro; refine ⟨?_, ?_⟩; · (intro a w' hR; go_simp; rfl)) | (refine wpY_val rfl rfl (by first | exact runs0 | exact runs1 rfl) Ext.refl rfl ?_; apply Exists.intro; refine ⟨?_, ?_⟩; · (intro a w' hR; intro h1; (first | (have e1 : _ = _ := h1) | skip); intro h2; (first | (have e2 : _ = _ := h2) | skip); intro h3; (first | (have e3 : _ = _ := h3) | skip); go_simp; rfl)) | (refine wpY_skip rfl rfl (by first | exact .inl rfl | exact .inr rfl) ?_))
  refine wpY_val rfl rfl (by first | exact runs0 | exact runs1 rfl) Ext.refl rfl ?_; apply Exists.intro; refine ⟨?_, ?_⟩
  · intro a w' hR h1
    have e1 : _ = _ := h1
    have hl := hR.ints _ _ _ hc
    go_simp
    rfl
  refine wpY_eff (fun v _ => v = .string ⟨t.2.toArray⟩) (fun w => NR w g t.1 ∧ RR w h s) rfl (by first | exact runs0 | exact runs1 rfl) rfl (by first | exact mono_eq | exact (fun _ _ _ h k => RB.extS h k) | exact (fun _ _ _ h k => Rd.extV h k) | exact (fun _ _ _ h k => RB.extV h k)) (fun _ _ x y => ⟨x.1.ext y, x.2.ext y⟩) ?_ ?_
  · intro a w' hR hS h1 h2 K hK
    have e1 : _ = _ := h1
    have e2 : _ = _ := h2
    go_simp
    refine (HN.out w' hS.1).mono ?_
    rintro e w2 ⟨rfl, hr, he⟩
    exact hK _ _ (he.toS (by simp)) ⟨hr, Rdr.extG hS.2 he (Ne.symm HD.out)⟩ rfl
  repeat (first | (refine wpY_move0 rfl rfl (by first | exact runs0 | exact runs1 rfl) Ext.refl rfl rfl rfl ?_; apply Exists.intro; refine ⟨?_, ?_⟩; · (go_simp; rfl)) | (refine wpY_move rfl rfl (by first | exact runs0 | exact runs1 rfl) Ext.refl rfl rfl rfl (fun _ _ _ h _ => h) ?_) | (refine wpY_val rfl rfl (by first | exact runs0 | exact runs1 rfl) Ext.refl rfl ?_; apply Exists.intro; refine ⟨?_, ?_⟩; · (intro a w' hR; intro h1; (first | (have e1 : _ = _ := h1) | skip); intro h2; (first | (have e2 : _ = _ := h2) | skip); go_simp; rfl)) | (refine wpY_val rfl rfl (by first | exact runs0 | exact runs1 rfl) Ext.refl rfl ?_; apply Exists.intro; refine ⟨?_, ?_⟩; · (intro a w' hR; intro h1; (first | (have e1 : _ = _ := h1) | skip); go_simp; rfl)) | (refine wpY_val rfl rfl (by first | exact runs0 | exact runs1 rfl) Ext.refl rfl ?_; apply Exists.intro; refine ⟨?_, ?_⟩; · (intro a w' hR; go_simp; rfl)) | (refine wpY_val rfl rfl (by first | exact runs0 | exact runs1 rfl) Ext.refl rfl ?_; apply Exists.intro; refine ⟨?_, ?_⟩; · (intro a w' hR; intro h1; (first | (have e1 : _ = _ := h1) | skip); intro h2; (first | (have e2 : _ = _ := h2) | skip); intro h3; (first | (have e3 : _ = _ := h3) | skip); go_simp; rfl)) | (refine wpY_skip rfl rfl (by first | exact .inl rfl | exact .inr rfl) ?_))
  refine wpY_val rfl rfl (by first | exact runs0 | exact runs1 rfl) Ext.refl rfl ?_; apply Exists.intro; refine ⟨?_, ?_⟩
  · intro a w' hR h1
    have e1 : _ = _ := h1
    have hl := hR.ints _ _ _ hc
    go_simp
    rfl
  refine wpY_eff (fun v _ => v = .string ⟨t.2.toArray⟩) (fun w => NR w g t.1 ∧ RR w h t.1) rfl (by first | exact runs0 | exact runs1 rfl) rfl (by first | exact mono_eq | exact (fun _ _ _ h k => RB.extS h k) | exact (fun _ _ _ h k => Rd.extV h k) | exact (fun _ _ _ h k => RB.extV h k)) (fun _ _ x y => ⟨x.1.ext y, x.2.ext y⟩) ?_ ?_
  · intro a w' hR hS h1 h2 K hK
    have e1 : _ = _ := h1
    have e2 : _ = _ := h2
    go_simp
    refine (HR.out w' hS.2).mono ?_
    rintro e w2 ⟨rfl, hr, he⟩
    exact hK _ _ (he.toS (by simp)) ⟨Rdr.extG hS.1 he HD.out, hr⟩ rfl
  repeat (first | (refine wpY_move0 rfl rfl (by first | exact runs0 | exact runs1 rfl) Ext.refl rfl rfl rfl ?_; apply Exists.intro; refine ⟨?_, ?_⟩; · (go_simp; rfl)) | (refine wpY_move rfl rfl (by first | exact runs0 | exact runs1 rfl) Ext.refl rfl rfl rfl (fun _ _ _ h _ => h) ?_) | (refine wpY_val rfl rfl (by first | exact runs0 | exact runs1 rfl) Ext.refl rfl ?_; apply Exists.intro; refine ⟨?_, ?_⟩; · (intro a w' hR; intro h1; (first | (have e1 : _ = _ := h1) | skip); intro h2; (first | (have e2 : _ = _ := h2) | skip); go_simp; rfl)) | (refine wpY_val rfl rfl (by first | exact runs0 | exact runs1 rfl) Ext.refl rfl ?_; apply Exists.intro; refine ⟨?_, ?_⟩; · (intro a w' hR; intro h1; (first | (have e1 : _ = _ := h1) | skip); go_simp; rfl)) | (refine wpY_val rfl rfl (by first | exact runs0 | exact runs1 rfl) Ext.refl rfl ?_; apply Exists.intro; refine ⟨?_, ?_⟩; · (intro a w' hR; go_simp; rfl)) | (refine wpY_val rfl rfl (by first | exact runs0 | exact runs1 rfl) Ext.refl rfl ?_; apply Exists.intro; refine ⟨?_, ?_⟩; · (intro a w' hR; intro h1; (first | (have e1 : _ = _ := h1) | skip); intro h2; (first | (have e2 : _ = _ := h2) | skip); intro h3; (first | (have e3 : _ = _ := h3) | skip); go_simp; rfl)) | (refine wpY_skip rfl rfl (by first | exact .inl rfl | exact .inr rfl) ?_))
  refine wpY_done ?_
  intro w1 hx hS
  iterate 10 (rintro _ rfl)
  dsimp only [FinV]
  go_simp
  go_wp2
  go_ret
  exact ⟨rfl, hS.1, hS.2, (ExtS.of ((Ext.refl _).alloc _)).trans hx⟩

set_option maxRecDepth 100000 in
set_option maxHeartbeats 1000000 in
theorem do_0 (g h : Nat) (k n : Int) (s : Num.St) (w : World) (h1 : NR w g s) (h2 : RR w h s) (hk1 : k ≠ 1) (hk2 : k ≠ 2) (hk3 : k ≠ 3) (hk4 : k ≠ 4) :
    Calls Try.prog 17 #[.pointer (some ⟨g, 0, none⟩), .pointer (some ⟨h, 0, none⟩), .agg #[.int .i64 k, .int .i64 n]] w (DoPost g h s w) := by
  have H1 := Lib.hid h1
  have H2 := Lib.hid h2
  clear h1 h2
  have e1 : (k == 1) = false := by simpa using hk1
  have e2 : (k == 2) = false := by simpa using hk2
  have e3 : (k == 3) = false := by simpa using hk3
  have e4 : (k == 4) = false := by simpa using hk4
  clear hk1 hk2 hk3 hk4
  go_enter Try.func17, Try.ntmps17
  go_wp2
  go_ret
  have he := (Ext.refl w).alloc (.cells #[.int .i64 k, .int .i64 n] 42)
  exact ⟨rfl, H1.out.ext he, H2.out.ext he, ExtS.of he⟩

theorem do_any (g h : Nat) (k n : Int) (s : Num.St) (w : World) (h1 : NR w g s) (h2 : RR w h s) (hl : s.l.length ≤ 1000000) (hne : g ≠ h) :
    Calls Try.prog 17 #[.pointer (some ⟨g, 0, none⟩), .pointer (some ⟨h, 0, none⟩), .agg #[.int .i64 k, .int .i64 n]] w (DoPost g h (opP k n s) w) := by
  unfold opP
  by_cases c1 : k = 1
  · subst c1; rw [if_pos rfl]; exact do_1 g h n s w h1 h2 hl hne
  by_cases c2 : k = 2
  · subst c2; rw [if_neg (by omega), if_pos rfl]; exact do_2 g h n s w h1 h2 hl hne
  by_cases c3 : k = 3
  · subst c3; rw [if_neg (by omega), if_neg (by omega), if_pos rfl]; exact do_3 g h n s w h1 h2 hl hne
  by_cases c4 : k = 4
  · subst c4; rw [if_neg (by omega), if_neg (by omega), if_neg (by omega), if_pos rfl]; exact do_4 g h n s w h1 h2 hl hne
  · rw [if_neg c1, if_neg c2, if_neg c3, if_neg c4]; exact do_0 g h k n s w h1 h2 c1 c2 c3 c4

/-- pairs of numbers, cell by cell -/
def pairV (l : List (Int × Int)) : List Value := l.flatMap fun o => [.int .i64 o.1, .int .i64 o.2]
theorem pairV_len (l : List (Int × Int)) : (pairV l).length = l.length * 2 := by
  induction l with
  | nil => rfl
  | cons a l ih => unfold pairV at *; rw [List.flatMap_cons, List.length_append, ih]; simp; omega
theorem pairV_at : ∀ (l : List (Int × Int)) (i : Nat) (h : i < l.length), (pairV l)[i * 2]? = some (.int .i64 l[i].1) ∧ (pairV l)[i * 2 + 1]? = some (.int .i64 l[i].2)
  | a :: l, 0, h => ⟨rfl, rfl⟩
  | a :: l, i + 1, h => by
    have := pairV_at l i (by simpa using h)
    unfold pairV at *
    rw [List.flatMap_cons]
    rw [show (i + 1) * 2 = i * 2 + 2 by omega]
    exact this

set_option maxRecDepth 100000 in
set_option maxHeartbeats 1000000 in
theorem numReads_long (v u : Value) (_b : List UInt8) (n c : Nat) (A : Option Addr) (w : World) (hv : v = .slice A n c) (hn : 5000 < n) :
    Calls Try.prog 4 #[v, u] w fun e w' => e = .returned (.bool true) ∧ Ext w w' := by
  subst hv
  have g : (5000 : Int) < (n : Int) := by omega
  go_enter Try.func4, Try.ntmps4
  go_wp2_with (go_at_call 8; refine (lives_any _).mono ?_; rintro e w1 ⟨rfl, he1⟩)
  go_ret
  exact ⟨rfl, he1⟩

set_option maxRecDepth 100000 in
set_option maxHeartbeats 1000000 in
theorem numReads_any (v u : Value) (b : List UInt8) (l : List (Int × Int)) (w : World) (hb : RB w v b) (hu : Rd w 2 u l.length (pairV l)) (hlen : b.length ≤ 5000) :
    Calls Try.prog 4 #[v, u] w fun e w' => e = .returned (.bool true) ∧ Ext w w' := by
  obtain ⟨A, c, rfl⟩ := hb.form
  have HB := Lib.hid hb
  obtain ⟨B, d, rfl, hrd⟩ := hu
  have HU := Lib.hid hrd
  have g : ¬ (5000 : Int) < (b.length : Int) := by omega
  have HO := Lib.hid (own_empty w)
  have HBR := Lib.hid hb.rd
  clear hb hrd
  go_enter Try.func4, Try.ntmps4
  go_wp2_with (at_builtin; refine wpList_app rfl elemB _ _ _ rfl w.heap.size _ 0 [] rfl HO.out _ b.length _ rfl (HB.out.ext ((Ext.refl _).alloc _)).rd (one_byteV _) (by omega) (by unfold maxLen; omega) (by simp) ?_; intro v1 w1 ha; have HX1 := Lib.hid (ha.ext ((Ext.refl _).alloc _) rfl HO.out); have HO1 := Lib.hid (OB.of0 ha.own); clear ha; obtain ⟨A1, c1, rfl⟩ := HO1.out.form)
  refine (from_any _ b w1 HO1.out.rb (by omega)).mono ?_
  rintro e w2 ⟨g, rfl, hr2, he2, hg2⟩
  have HR2 := Lib.hid hr2
  have HX2 := Lib.hid (HX1.out.trans he2)
  have HO2 := Lib.hid (own_empty w2)
  clear hr2
  go_wp2_with (at_builtin; refine wpList_app rfl elemB _ _ _ rfl w2.heap.size _ 0 [] rfl HO2.out _ b.length _ rfl (HB.out.ext (HX2.out.alloc _)).rd (one_byteV _) (by omega) (by unfold maxLen; omega) (by simp) ?_; intro v3 w3 ha; have HX3 := Lib.hid (ha.ext ((Ext.refl _).alloc _) rfl HO2.out); have HO3 := Lib.hid (OB.of0 ha.own); clear ha; obtain ⟨A3, c3, rfl⟩ := HO3.out.form)
  refine (lives_any _).mono ?_
  rintro e w4 ⟨rfl, he4⟩
  have HX4 := Lib.hid ((HX2.out.trans (HX3.out.alloc (.cells #[.slice A3 b.length c3, .bool false] 39))).trans he4)
  have hrr : RR (w3.alloc (.cells #[.slice A3 b.length c3, .bool false] 39)) w3.heap.size ⟨b, false⟩ := ⟨A3, c3, Blk.new _ _ _, HO3.out.rb.ext ((Ext.refl _).alloc _)⟩
  have HR4 := Lib.hid (hrr.ext he4)
  have HN4 := Lib.hid (HR2.out.ext ((HX3.out.alloc (.cells #[.slice A3 b.length c3, .bool false] 39)).trans he4))
  have HB4 := Lib.hid (HO1.out.rb.ext ((he2.trans (HX3.out.alloc (.cells #[.slice A3 b.length c3, .bool false] 39))).trans he4))
  have hgh : g < w3.heap.size := Nat.lt_of_lt_of_le HR2.out.lt HX3.out.size
  have hh : w.heap.size ≤ g ∧ w.heap.size ≤ w3.heap.size := ⟨Nat.le_trans HX1.out.size hg2, Nat.le_trans (Nat.le_trans HX1.out.size hg2) (Nat.le_of_lt hgh)⟩
  clear hrr he4 he2 hg2
  generalize w3.heap.size = h at *
  have HH := Lib.hid hh
  have HG := Lib.hid hgh
  clear hh hgh
  go_wp2
  go_loopw [8] (fun i wr => ∃ (k : Nat) (s : Num.St), k ≤ l.length ∧ k ≤ 30 ∧ i = .int .i64 k ∧ NR wr g s ∧ RR wr h s ∧ s.l.length ≤ 5000 ∧ RB wr (.slice A1 b.length c1) b ∧ Ext w wr) (fun i _ => 30 - (intOf i).toNat)
  case atStart => exact ⟨0, ⟨b, false⟩, Nat.zero_le _, by omega, rfl, HN4.out, HR4.out, hlen, HB4.out, HX4.out⟩
  case round =>
    obtain ⟨k, s, hk, hk30, rfl, h1, h2, hsl, hb1, hext⟩ := hrel
    have H1 := Lib.hid h1
    have H2 := Lib.hid h2
    have HE := Lib.hid hext
    have HB1 := Lib.hid hb1
    clear h1 h2 hext hb1
    by_cases hlt : k < l.length ∧ k < 30
    · obtain ⟨hlt, hlt30⟩ := hlt
      have g1 : (k : Int) < (l.length : Int) := by omega
      have g2 : (k : Int) < 30 := by omega
      have g0 : 0 ≤ (k : Int) := by omega
      obtain ⟨bb, oo, rfl⟩ := HU.out.addr (by omega)
      obtain ⟨hp1, hp2⟩ := pairV_at l k hlt
      have hc0 := (HU.out.ext HE.out).get hp1
      have hc1 := (HU.out.ext HE.out).get hp2
      have hs' := opP_len l[k].1 l[k].2 s
      have HD := Lib.hid (fun w' (hS : NR w' g s ∧ RR w' h s) => do_any g h l[k].1 l[k].2 s w' hS.1 hS.2 (by omega) (Nat.ne_of_lt HG.out))
      rw [← Nat.add_assoc] at hc1
      clear hp1 hp2
      generalize opP l[k].1 l[k].2 s = s' at *
      generalize l[k].1 = kd at *
      generalize l[k].2 = nn at *
      go_wp2
      refine wp_regionY [46] [50, 54, 59, 61] Ext (ExtS [g, h]) (fun w => NR w g s ∧ RR w h s) (by kernel_rfl) (by rfl) (by rfl) (by kernel_rfl) (by kernel_rfl) (by kernel_rfl) (fun _ _ _ x y => x.trans y) (ExtS.refl _) (fun _ _ x => ExtS.of x) (Ext.refl _).drew (fun _ _ x y => ⟨x.1.ext y, x.2.ext y⟩) (⟨H1.out, H2.out⟩) ?_
      repeat (first | (refine wpY_move0 rfl rfl (by first | exact runs0 | exact runs1 rfl) Ext.refl rfl rfl rfl ?_; apply Exists.intro; refine ⟨?_, ?_⟩; · (go_simp; rfl)) | (refine wpY_move rfl rfl (by first | exact runs0 | exact runs1 rfl) Ext.refl rfl rfl rfl (fun _ _ _ h _ => h) ?_) | (refine wpY_val rfl rfl (by first | exact runs0 | exact runs1 rfl) Ext.refl rfl ?_; apply Exists.intro; refine ⟨?_, ?_⟩; · (intro a w' hR; intro h1; (first | (have e1 : _ = _ := h1) | skip); intro h2; (first | (have e2 : _ = _ := h2) | skip); go_simp; rfl)) | (refine wpY_val rfl rfl (by first | exact runs0 | exact runs1 rfl) Ext.refl rfl ?_; apply Exists.intro; refine ⟨?_, ?_⟩; · (intro a w' hR; intro h1; (first | (have e1 : _ = _ := h1) | skip); go_simp; rfl)) | (refine wpY_val rfl rfl (by first | exact runs0 | exact runs1 rfl) Ext.refl rfl ?_; apply Exists.intro; refine ⟨?_, ?_⟩; · (intro a w' hR; go_simp; rfl)) | (refine wpY_val rfl rfl (by first | exact runs0 | exact runs1 rfl) Ext.refl rfl ?_; apply Exists.intro; refine ⟨?_, ?_⟩; · (intro a w' hR; intro h1; (first | (have e1 : _ = _ := h1) | skip); intro h2; (first | (have e2 : _ = _ := h2) | skip); intro h3; (first | (have e3 : _ = _ := h3) | skip); go_simp; rfl)) | (refine wpY_skip rfl rfl (by first | exact .inl rfl | exact .inr rfl) ?_))
      refine wpY_val rfl rfl (by first | exact runs0 | exact runs1 rfl) Ext.refl rfl ?_; apply Exists.intro; refine ⟨?_, ?_⟩
      · intro a w' hR h1
        have e1 : _ = _ := h1
        have hl0 := hR.ints _ _ _ hc0
        have hl1 := hR.ints _ _ _ hc1
        go_simp
        rfl
      refine wpY_eff (fun v _ => v = .bool true) (fun w => NR w g s' ∧ RR w h s') rfl (by first | exact runs0 | exact runs1 rfl) rfl (by first | exact mono_eq | exact (fun _ _ _ h k => RB.extS h k) | exact (fun _ _ _ h k => Rd.extV h k) | exact (fun _ _ _ h k => RB.extV h k)) (fun _ _ x y => ⟨x.1.ext y, x.2.ext y⟩) ?_ ?_
      · intro a w' hR hS h1 h2 h3 K hK
        have e1 : _ = _ := h1
        have e2 : _ = _ := h2
        have e3 : _ = _ := h3
        go_simp
        refine (HD.out w' hS).mono ?_
        rintro e w2 ⟨rfl, q1, q2, q3⟩
        exact hK _ _ q3 ⟨q1, q2⟩ rfl
      repeat (first | (refine wpY_move0 rfl rfl (by first | exact runs0 | exact runs1 rfl) Ext.refl rfl rfl rfl ?_; apply Exists.intro; refine ⟨?_, ?_⟩; · (go_simp; rfl)) | (refine wpY_move rfl rfl (by first | exact runs0 | exact runs1 rfl) Ext.refl rfl rfl rfl (fun _ _ _ h _ => h) ?_) | (refine wpY_val rfl rfl (by first | exact runs0 | exact runs1 rfl) Ext.refl rfl ?_; apply Exists.intro; refine ⟨?_, ?_⟩; · (intro a w' hR; intro h1; (first | (have e1 : _ = _ := h1) | skip); intro h2; (first | (have e2 : _ = _ := h2) | skip); go_simp; rfl)) | (refine wpY_val rfl rfl (by first | exact runs0 | exact runs1 rfl) Ext.refl rfl ?_; apply Exists.intro; refine ⟨?_, ?_⟩; · (intro a w' hR; intro h1; (first | (have e1 : _ = _ := h1) | skip); go_simp; rfl)) | (refine wpY_val rfl rfl (by first | exact runs0 | exact runs1 rfl) Ext.refl rfl ?_; apply Exists.intro; refine ⟨?_, ?_⟩; · (intro a w' hR; go_simp; rfl)) | (refine wpY_val rfl rfl (by first | exact runs0 | exact runs1 rfl) Ext.refl rfl ?_; apply Exists.intro; refine ⟨?_, ?_⟩; · (intro a w' hR; intro h1; (first | (have e1 : _ = _ := h1) | skip); intro h2; (first | (have e2 : _ = _ := h2) | skip); intro h3; (first | (have e3 : _ = _ := h3) | skip); go_simp; rfl)) | (refine wpY_skip rfl rfl (by first | exact .inl rfl | exact .inr rfl) ?_))
      refine wpY_callA (fun v _ => v = .bool s'.bad) rfl rfl (by first | exact runs0 | exact runs1 rfl) rfl (by first | exact mono_eq | exact (fun _ _ _ h k => RB.extS h k) | exact (fun _ _ _ h k => Rd.extV h k) | exact (fun _ _ _ h k => RB.extV h k)) ?_ ?_
      · intro a w' hR hS h1 K hK
        have e1 : _ = _ := h1
        go_simp
        refine (bad_any g s' w' hS.1).mono ?_
        rintro e w2 ⟨rfl, rfl⟩
        exact hK _ _ (Ext.refl _) rfl
      repeat (first | (refine wpY_move0 rfl rfl (by first | exact runs0 | exact runs1 rfl) Ext.refl rfl rfl rfl ?_; apply Exists.intro; refine ⟨?_, ?_⟩; · (go_simp; rfl)) | (refine wpY_move rfl rfl (by first | exact runs0 | exact runs1 rfl) Ext.refl rfl rfl rfl (fun _ _ _ h _ => h) ?_) | (refine wpY_val rfl rfl (by first | exact runs0 | exact runs1 rfl) Ext.refl rfl ?_; apply Exists.intro; refine ⟨?_, ?_⟩; · (intro a w' hR; intro h1; (first | (have e1 : _ = _ := h1) | skip); intro h2; (first | (have e2 : _ = _ := h2) | skip); go_simp; rfl)) | (refine wpY_val rfl rfl (by first | exact runs0 | exact runs1 rfl) Ext.refl rfl ?_; apply Exists.intro; refine ⟨?_, ?_⟩; · (intro a w' hR; intro h1; (first | (have e1 : _ = _ := h1) | skip); go_simp; rfl)) | (refine wpY_val rfl rfl (by first | exact runs0 | exact runs1 rfl) Ext.refl rfl ?_; apply Exists.intro; refine ⟨?_, ?_⟩; · (intro a w' hR; go_simp; rfl)) | (refine wpY_val rfl rfl (by first | exact runs0 | exact runs1 rfl) Ext.refl rfl ?_; apply Exists.intro; refine ⟨?_, ?_⟩; · (intro a w' hR; intro h1; (first | (have e1 : _ = _ := h1) | skip); intro h2; (first | (have e2 : _ = _ := h2) | skip); intro h3; (first | (have e3 : _ = _ := h3) | skip); go_simp; rfl)) | (refine wpY_skip rfl rfl (by first | exact .inl rfl | exact .inr rfl) ?_))
      refine wpY_callA (fun v _ => v = .bool s'.bad) rfl rfl (by first | exact runs0 | exact runs1 rfl) rfl (by first | exact mono_eq | exact (fun _ _ _ h k => RB.extS h k) | exact (fun _ _ _ h k => Rd.extV h k) | exact (fun _ _ _ h k => RB.extV h k)) ?_ ?_
      · intro a w' hR hS h1 K hK
        have e1 : _ = _ := h1
        obtain ⟨hc1, hf1, hf0⟩ := hS.2.mark
        go_simp
        exact hK _ _ (Ext.refl _) rfl
      repeat (first | (refine wpY_move0 rfl rfl (by first | exact runs0 | exact runs1 rfl) Ext.refl rfl rfl rfl ?_; apply Exists.intro; refine ⟨?_, ?_⟩; · (go_simp; rfl)) | (refine wpY_move rfl rfl (by first | exact runs0 | exact runs1 rfl) Ext.refl rfl rfl rfl (fun _ _ _ h _ => h) ?_) | (refine wpY_val rfl rfl (by first | exact runs0 | exact runs1 rfl) Ext.refl rfl ?_; apply Exists.intro; refine ⟨?_, ?_⟩; · (intro a w' hR; intro h1; (first | (have e1 : _ = _ := h1) | skip); intro h2; (first | (have e2 : _ = _ := h2) | skip); go_simp; rfl)) | (refine wpY_val rfl rfl (by first | exact runs0 | exact runs1 rfl) Ext.refl rfl ?_; apply Exists.intro; refine ⟨?_, ?_⟩; · (intro a w' hR; intro h1; (first | (have e1 : _ = _ := h1) | skip); go_simp; rfl)) | (refine wpY_val rfl rfl (by first | exact runs0 | exact runs1 rfl) Ext.refl rfl ?_; apply Exists.intro; refine ⟨?_, ?_⟩; · (intro a w' hR; go_simp; rfl)) | (refine wpY_val rfl rfl (by first | exact runs0 | exact runs1 rfl) Ext.refl rfl ?_; apply Exists.intro; refine ⟨?_, ?_⟩; · (intro a w' hR; intro h1; (first | (have e1 : _ = _ := h1) | skip); intro h2; (first | (have e2 : _ = _ := h2) | skip); intro h3; (first | (have e3 : _ = _ := h3) | skip); go_simp; rfl)) | (refine wpY_skip rfl rfl (by first | exact .inl rfl | exact .inr rfl) ?_))
      refine wpY_callA (fun v _ => v = .int .i64 (Num.leftP s' : Nat)) rfl rfl (by first | exact runs0 | exact runs1 rfl) rfl (by first | exact mono_eq | exact (fun _ _ _ h k => RB.extS h k) | exact (fun _ _ _ h k => Rd.extV h k) | exact (fun _ _ _ h k => RB.extV h k)) ?_ ?_
      · intro a w' hR hS h1 K hK
        have e1 : _ = _ := h1
        go_simp
        refine (left_any g s' w' hS.1).mono ?_
        rintro e w2 ⟨rfl, rfl⟩
        exact hK _ _ (Ext.refl _) rfl
      repeat (first | (refine wpY_move0 rfl rfl (by first | exact runs0 | exact runs1 rfl) Ext.refl rfl rfl rfl ?_; apply Exists.intro; refine ⟨?_, ?_⟩; · (go_simp; rfl)) | (refine wpY_move rfl rfl (by first | exact runs0 | exact runs1 rfl) Ext.refl rfl rfl rfl (fun _ _ _ h _ => h) ?_) | (refine wpY_val rfl rfl (by first | exact runs0 | exact runs1 rfl) Ext.refl rfl ?_; apply Exists.intro; refine ⟨?_, ?_⟩; · (intro a w' hR; intro h1; (first | (have e1 : _ = _ := h1) | skip); intro h2; (first | (have e2 : _ = _ := h2) | skip); go_simp; rfl)) | (refine wpY_val rfl rfl (by first | exact runs0 | exact runs1 rfl) Ext.refl rfl ?_; apply Exists.intro; refine ⟨?_, ?_⟩; · (intro a w' hR; intro h1; (first | (have e1 : _ = _ := h1) | skip); go_simp; rfl)) | (refine wpY_val rfl rfl (by first | exact runs0 | exact runs1 rfl) Ext.refl rfl ?_; apply Exists.intro; refine ⟨?_, ?_⟩; · (intro a w' hR; go_simp; rfl)) | (refine wpY_val rfl rfl (by first | exact runs0 | exact runs1 rfl) Ext.refl rfl ?_; apply Exists.intro; refine ⟨?_, ?_⟩; · (intro a w' hR; intro h1; (first | (have e1 : _ = _ := h1) | skip); intro h2; (first | (have e2 : _ = _ := h2) | skip); intro h3; (first | (have e3 : _ = _ := h3) | skip); go_simp; rfl)) | (refine wpY_skip rfl rfl (by first | exact .inl rfl | exact .inr rfl) ?_))
      refine wpY_callA (fun v _ => v = .int .i64 (Num.leftP s' : Nat)) rfl rfl (by first | exact runs0 | exact runs1 rfl) rfl (by first | exact mono_eq | exact (fun _ _ _ h k => RB.extS h k) | exact (fun _ _ _ h k => Rd.extV h k) | exact (fun _ _ _ h k => RB.extV h k)) ?_ ?_
      · intro a w' hR hS h1 K hK
        have e1 : _ = _ := h1
        go_simp
        refine (rleft_any h s' w' hS.2).mono ?_
        rintro e w2 ⟨rfl, rfl⟩
        exact hK _ _ (Ext.refl _) rfl
      repeat (first | (refine wpY_move0 rfl rfl (by first | exact runs0 | exact runs1 rfl) Ext.refl rfl rfl rfl ?_; apply Exists.intro; refine ⟨?_, ?_⟩; · (go_simp; rfl)) | (refine wpY_move rfl rfl (by first | exact runs0 | exact runs1 rfl) Ext.refl rfl rfl rfl (fun _ _ _ h _ => h) ?_) | (refine wpY_val rfl rfl (by first | exact runs0 | exact runs1 rfl) Ext.refl rfl ?_; apply Exists.intro; refine ⟨?_, ?_⟩; · (intro a w' hR; intro h1; (first | (have e1 : _ = _ := h1) | skip); intro h2; (first | (have e2 : _ = _ := h2) | skip); go_simp; rfl)) | (refine wpY_val rfl rfl (by first | exact runs0 | exact runs1 rfl) Ext.refl rfl ?_; apply Exists.intro; refine ⟨?_, ?_⟩; · (intro a w' hR; intro h1; (first | (have e1 : _ = _ := h1) | skip); go_simp; rfl)) | (refine wpY_val rfl rfl (by first | exact runs0 | exact runs1 rfl) Ext.refl rfl ?_; apply Exists.intro; refine ⟨?_, ?_⟩; · (intro a w' hR; go_simp; rfl)) | (refine wpY_val rfl rfl (by first | exact runs0 | exact runs1 rfl) Ext.refl rfl ?_; apply Exists.intro; refine ⟨?_, ?_⟩; · (intro a w' hR; intro h1; (first | (have e1 : _ = _ := h1) | skip); intro h2; (first | (have e2 : _ = _ := h2) | skip); intro h3; (first | (have e3 : _ = _ := h3) | skip); go_simp; rfl)) | (refine wpY_skip rfl rfl (by first | exact .inl rfl | exact .inr rfl) ?_))
      refine wpY_done ?_
      intro w5 hx hS
      iterate 24 (rintro _ rfl)
      dsimp only [FinV]
      go_simp
      have HX := Lib.hid hx
      have HS1 := Lib.hid hS.1
      have HS2 := Lib.hid hS.2
      clear hS hx
      go_wp2
      refine ⟨⟨k + 1, s', by omega, by omega, by go_num, HS1.out, HS2.out, by omega, HB1.out.extS HX.out, HE.out.andS HX.out (by simp; exact HH.out)⟩, by simp [intOf]; omega⟩
    · obtain ⟨A5, c5, hrb5, hc0, hc1, hf1, hf0⟩ := H2.out.open_
      have hs1 : (convert 23 9 (.slice A1 b.length c1)).run Try.prog wr = .ok (.string ⟨b.toArray⟩) wr := strB HB1.out
      have hs2 : (convert 23 9 (.slice A b.length c)).run Try.prog wr = .ok (.string ⟨b.toArray⟩) wr := strB (HB.out.ext HE.out)
      have HDN := Lib.hid (done_any g s wr H1.out)
      have HEX : (¬ (k : Int) < (l.length : Int)) ∨ ((k : Int) < (l.length : Int) ∧ ¬ (k : Int) < 30) := by omega
      clear hrb5 hlt
      obtain ⟨sl, sb⟩ := s
      dsimp only at *
      rcases HEX with x1 | ⟨x1, x2⟩
      · cases sb with
        | true =>
          rw [if_pos (.inl rfl)] at HDN
          go_wp2_with (go_at_call 21; refine HDN.out.mono ?_; rintro e w' ⟨rfl, rfl⟩)
          go_ret
          exact ⟨rfl, HE.out⟩
        | false =>
          by_cases hq : sl = []
          · subst hq
            rw [if_neg (by simp)] at HDN
            go_wp2_with (go_at_call 21; refine HDN.out.mono ?_; rintro e w' ⟨rfl, rfl⟩)
            go_ret
            exact ⟨rfl, HE.out⟩
          · rw [if_pos (.inr hq)] at HDN
            have hp : 0 < sl.length := List.length_pos_iff.2 hq
            have hp1 : (0 : Int) < (sl.length : Int) := by omega
            clear hq
            generalize sl.length = sn at *
            go_wp2_with (go_at_call 21; refine HDN.out.mono ?_; rintro e w' ⟨rfl, rfl⟩)
            go_ret
            exact ⟨rfl, HE.out⟩
      · cases sb with
        | true =>
          rw [if_pos (.inl rfl)] at HDN
          go_wp2_with (go_at_call 21; refine HDN.out.mono ?_; rintro e w' ⟨rfl, rfl⟩)
          go_ret
          exact ⟨rfl, HE.out⟩
        | false =>
          by_cases hq : sl = []
          · subst hq
            rw [if_neg (by simp)] at HDN
            go_wp2_with (go_at_call 21; refine HDN.out.mono ?_; rintro e w' ⟨rfl, rfl⟩)
            go_ret
            exact ⟨rfl, HE.out⟩
          · rw [if_pos (.inr hq)] at HDN
            have hp : 0 < sl.length := List.length_pos_iff.2 hq
            have hp1 : (0 : Int) < (sl.length : Int) := by omega
            clear hq
            generalize sl.length = sn at *
            go_wp2_with (go_at_call 21; refine HDN.out.mono ?_; rintro e w' ⟨rfl, rfl⟩)
            go_ret
            exact ⟨rfl, HE.out⟩
end Go.Proofs.Ytgojbgjfnjeglaa
