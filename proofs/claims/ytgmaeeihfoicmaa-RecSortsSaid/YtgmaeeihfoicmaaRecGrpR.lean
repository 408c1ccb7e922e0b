/-
  The document's Groups.
-/
import Derived.Test.YtgmaeeihfoicmaaRecGrp
import Derived.Test.YtgmaeeihfoicmaaEff2
namespace Go.Ox.Rec
/-- the groups, one behind the other -/
theorem grpF_flat (s : List R) : (grpF s).flatten = s := by
  have : ∀ (s : List R) (g : List (List R)), Full g → (s.foldl addG g).flatten = g.flatten ++ s := by
    intro s
    induction s with
    | nil => intro g _; simp
    | cons y s ih =>
      intro g hg
      rw [List.foldl_cons, ih (addG g y) (addG_full hg y)]
      by_cases hne : g = []
      · subst hne; simp [addG_first]
      · obtain ⟨out, x, t, rfl⟩ := last_of hg hne
        by_cases hk : x.1 = y.1
        · rw [addG_yes hk]; simp
        · rw [addG_no hk]; simp
  have := this s [] full_nil
  simpa [grpF] using this
end Go.Ox.Rec
namespace Go.Proofs.Ytgmaeeihfoicmaa
open Go.RowKit Go.Ox Go.Shelf
attribute [local irreducible] OP RP
set_option linter.unusedVariables false
set_option linter.unusedSimpArgs false

theorem grpF_step {S : List Rec.R} {k : Nat} (h : k < S.length) : Rec.grpF (S.take (k + 1)) = Rec.addG (Rec.grpF (S.take k)) S[k] := by
  rw [List.take_succ_eq_append_getElem h, Rec.grpF_snoc]
theorem snoc_set {α : Type} (out : List α) (x y : α) : (out ++ [x]).set out.length y = out ++ [y] := by simp

/-- a group more: out = append(out, []Rec{x}) -/
theorem rgrp_push {base : Nat} {wr w5 : World} {AO : Option Addr} {cO : Nat} {F : List (List Rec.R)} {us : List Value} {x1 x2 : Int} {v5 : Value} (h : OV 24 23 base wr (.slice AO F.length cO) F us) (hb : base ≤ wr.heap.size)
    (ha : Appended ((wr.alloc (.cells #[.int .i64 x1, .int .i64 x2] 23)).alloc (.cells #[.slice (some ⟨wr.heap.size, 0, none⟩) 1 1] 24)) w5 base 24 1 (.slice AO F.length cO) v5 F.length 1 us [.slice (some ⟨wr.heap.size, 0, none⟩) 1 1]) :
    OV 24 23 base w5 v5 (F ++ [[(x1, x2)]]) (us ++ [.slice (some ⟨wr.heap.size, 0, none⟩) 1 1]) := by
  have hx : Ext wr (wr.alloc (.cells #[.int .i64 x1, .int .i64 x2] 23)) := (Ext.refl _).alloc _
  have hown : (wr.alloc (.cells #[.int .i64 x1, .int .i64 x2] 23)).ownsRow base 23 2 (.slice (some ⟨wr.heap.size, 0, none⟩) 1 1) 1 [.int .i64 x1, .int .i64 x2] := by
    have := World.ownsRow_lit (base := base) (e := 23) (size := 2) wr #[.int .i64 x1, .int .i64 x2] 1 hb (by unfold maxLen; omega) rfl
    simpa using this
  have hg : ∀ g : Nat, (Value.slice (some ⟨wr.heap.size, 0, none⟩) 1 1).ownBlock = some g → g = wr.heap.size := fun g e => by injection e with e; exact e.symm
  refine OV.push (h.ext hx) (u := .slice (some ⟨wr.heap.size, 0, none⟩) 1 1) (l := [(x1, x2)]) (OE.mk hown) (fun g h1 h2 => ?_) (fun j y hy g h1 h2 => ?_) ha
  · have e := hg g h1
    have := (h.own.lt g h2).2
    omega
  · have e := hg g h1
    have hjl : j < F.length := by have := (List.getElem?_eq_some_iff.1 hy).1; have := h.len; omega
    obtain ⟨u, hu, ho, _⟩ := h.row j hjl
    rw [hy] at hu
    injection hu with hu
    subst hu
    have := (ho.own.lt g h2).2
    omega

/-- what a row appended to is -/
structure GrownR (base B : Nat) (ub : Option Nat) (l : List Rec.R) (v : Value) (w : World) : Prop where
  own : OP 23 base w v l
  at_ : v.ownBlock = ub ∨ ∃ g, v.ownBlock = some g ∧ B ≤ g
theorem GrownR.ext {base B : Nat} {ub : Option Nat} {l : List Rec.R} {v : Value} {w w' : World} (h : GrownR base B ub l v w) (he : Ext w w') : GrownR base B ub l v w' := ⟨h.own.ext he, h.at_⟩
theorem frozen_of_block {w w' : World} {p : Addr} (h : w'.heap[p.block]? = w.heap[p.block]?) : w'.frozen? p = w.frozen? p := by simp [World.frozen?, h]
theorem frozen_ext {w w' : World} {p : Addr} (h : Ext w w') (hp : p.block < w.heap.size) : w'.frozen? p = w.frozen? p := frozen_of_block (h.block hp)
set_option maxRecDepth 100000 in
set_option maxHeartbeats 8000000 in
theorem rgroups_any (v : Value) (l : List Rec.R) (w : World) (hv : RP w v l) (hl : l.length ≤ 1000000) :
    Calls Try.prog 40 #[v] w fun e w' => ∃ v', e = .returned v' ∧ RRS w' v' (Rec.grp l) ∧ Ext w w' := by
  have HS := Lib.hid (rsort_any l v w hv hl)
  unfold Rec.grp
  have HSL := Lib.hid (show (Rec.srt l).length ≤ 1000000 by rw [Rec.srt_len]; exact hl)
  obtain ⟨A, c, rfl⟩ := hv.form
  generalize Rec.srt l = S at *
  clear hv hl
  go_enter Try.func40, Try.ntmps40
  go_wp2_with fail
  refine HS.out.mono ?_
  rintro e w1 ⟨v1, rfl, ho1, he1⟩
  have HR1 := Lib.hid ho1.rp
  have HX1 := Lib.hid he1
  obtain ⟨A1, c1, rfl⟩ := ho1.rp.form
  clear ho1 he1 HS
  go_wp2
  go_loopw [4, 5] (fun o iv wr => ∃ (k : Nat) (us : List Value), k ≤ S.length ∧ iv = .int .i64 (k : Int) ∧ OV 24 23 w1.heap.size wr o (Rec.grpF (S.take k)) us ∧ Ext w1 wr) (fun _ iv _ => S.length - (intOf iv).toNat)
  case atStart => exact ⟨0, [], Nat.zero_le _, rfl, OV.nil _ _ _ _, Ext.refl _⟩
  case round =>
    obtain ⟨k, us, hk, rfl, ho, hext⟩ := hrel
    have HE := Lib.hid hext
    have HO := Lib.hid ho
    obtain ⟨AO, cO, rfl⟩ := ho.rv.form
    have hgl := Rec.grpF_len (S.take k)
    rw [List.length_take] at hgl
    have HGL := Lib.hid (show (Rec.grpF (S.take k)).length ≤ 1000000 by have := HSL.out; omega)
    clear ho hgl
    by_cases hlt : k < S.length
    · have g1 : (k : Int) < (S.length : Int) := by omega
      have g0 : 0 ≤ (k : Int) := by omega
      have HLT := Lib.hid hlt
      have hkb : k ≤ 1000000 := by have := HSL.out; omega
      obtain ⟨bA, oA, rfl, xa, xb⟩ := (HR1.out.ext hext).at_ (k := k) hlt
      have HST := Lib.hid (grpF_step hlt)
      have HFU := Lib.hid (Rec.grpF_full (S.take k))
      have HFG := Lib.hid (Rec.grpF_flat (S.take k))
      have HSZ := Lib.hid (show w1.heap.size ≤ wr.heap.size from hext.size)
      generalize S[k] = x at *
      obtain ⟨x1, x2⟩ := x
      generalize Rec.grpF (S.take k) = F at *
      dsimp only at *
      by_cases hF : F = []
      · subst hF
        have HST := Lib.hid (show Rec.grpF (S.take (k + 1)) = [] ++ [[(x1, x2)]] from HST.out.trans (Rec.addG_first _))
        have gz : ¬ (0 : Int) < (([] : List (List Rec.R)).length : Int) := by simp
        clear hext hk hlt
        go_wp2
        refine wp_regionY [] [] Ext Ext (fun _ => True) (by kernel_rfl) (by rfl) (by rfl) (by kernel_rfl) (by kernel_rfl) (by kernel_rfl) (fun _ _ _ x y => x.trans y) Ext.refl (fun _ _ x => x) (Ext.refl _).drew (fun _ _ x _ => x) trivial ?_
        repeat (first | (refine wpY_move0 rfl rfl (by first | exact runs0 | exact runs1 rfl) Ext.refl rfl rfl rfl ?_; apply Exists.intro; refine ⟨?_, ?_⟩; · (go_simp; rfl)) | (refine wpY_move rfl rfl (by first | exact runs0 | exact runs1 rfl) Ext.refl rfl rfl rfl (fun _ _ _ h _ => h) ?_) | (refine wpY_val rfl rfl (by first | exact runs0 | exact runs1 rfl) Ext.refl rfl ?_; apply Exists.intro; refine ⟨?_, ?_⟩; · (intro a w' hR; intro h1; (first | (have e1 : _ = _ := h1) | skip); intro h2; (first | (have e2 : _ = _ := h2) | skip); go_simp; rfl)) | (refine wpY_val rfl rfl (by first | exact runs0 | exact runs1 rfl) Ext.refl rfl ?_; apply Exists.intro; refine ⟨?_, ?_⟩; · (intro a w' hR; intro h1; (first | (have e1 : _ = _ := h1) | skip); go_simp; rfl)) | (refine wpY_val rfl rfl (by first | exact runs0 | exact runs1 rfl) Ext.refl rfl ?_; apply Exists.intro; refine ⟨?_, ?_⟩; · (intro a w' hR; go_simp; rfl)) | (refine wpY_val rfl rfl (by first | exact runs0 | exact runs1 rfl) Ext.refl rfl ?_; apply Exists.intro; refine ⟨?_, ?_⟩; · (intro a w' hR; intro h1; (first | (have e1 : _ = _ := h1) | skip); intro h2; (first | (have e2 : _ = _ := h2) | skip); intro h3; (first | (have e3 : _ = _ := h3) | skip); go_simp; rfl)) | (refine wpY_skip rfl rfl (by first | exact .inl rfl | exact .inr rfl) ?_))
        refine wpY_done ?_
        intro w5 hx5 hS
        iterate 18 (rintro _ rfl)
        dsimp only [FinV]
        go_simp
        have xa := hx5.cell xa
        have xb := hx5.cell xb
        have HX5 := Lib.hid (HE.out.trans hx5)
        have HO5 := Lib.hid (HO.out.ext hx5)
        have HSZ5 := Lib.hid (Nat.le_trans HSZ.out hx5.size)
        clear hx5 hS
        go_upto_region 9 with fail
        have hxl : Ext w5 (w5.alloc (.cells #[.int .i64 x1, .int .i64 x2] 23)) := (Ext.refl _).alloc _
        have HOL := Lib.hid ((HO5.out.ext hxl).ext ((Ext.refl _).alloc (.cells #[.slice (some ⟨w5.heap.size, 0, none⟩) 1 1] 24)))
        have HXL := Lib.hid (((Ext.refl w5).alloc (.cells #[.int .i64 x1, .int .i64 x2] 23)).alloc (.cells #[.slice (some ⟨w5.heap.size, 0, none⟩) 1 1] 24))
        have HLIT := Lib.hid (show Rd ((w5.alloc (.cells #[.int .i64 x1, .int .i64 x2] 23)).alloc (.cells #[.slice (some ⟨w5.heap.size, 0, none⟩) 1 1] 24)) 1 (.slice (some ⟨w5.heap.size + 1, 0, none⟩) 1 1) 1 [.slice (some ⟨w5.heap.size, 0, none⟩) 1 1] by
          have := Rd.lit (w5.alloc (.cells #[.int .i64 x1, .int .i64 x2] 23)) #[.slice (some ⟨w5.heap.size, 0, none⟩) 1 1] 24 (size := 1) 1 rfl (by unfold maxLen; omega)
          simpa using this)
        clear hxl
        go_wp2_with (at_builtin; refine wpList_app rfl elemSS ((w5.alloc (.cells #[.int .i64 x1, .int .i64 x2] 23)).alloc (.cells #[.slice (some ⟨w5.heap.size, 0, none⟩) 1 1] 24)) _ _ rfl w1.heap.size _ ([] : List (List Rec.R)).length us rfl HOL.out.own _ 1 [.slice (some ⟨w5.heap.size, 0, none⟩) 1 1] rfl HLIT.out (by intro u hu; rw [List.mem_singleton.1 hu]; rfl) (by have := HGL.out; omega) (by have := HGL.out; unfold maxLen; omega) (Nat.le_trans HSZ5.out HXL.out.size) ?_; intro v8 w8 ha)
        exact ⟨⟨k + 1, us ++ [.slice (some ⟨w5.heap.size, 0, none⟩) 1 1], HLT.out, by go_num, by rw [HST.out]; exact rgrp_push HO5.out HSZ5.out ha, ha.ext (HX5.out.trans HXL.out) rfl HOL.out.own⟩, by have := HLT.out; simp [intOf]; omega⟩
      · obtain ⟨out, h, tl, hFe⟩ := Rec.last_of HFU.out hF
        obtain ⟨h1, h2⟩ := h
        subst hFe
        have hjl : out.length < (out ++ [(h1, h2) :: tl]).length := by simp
        obtain ⟨b, cap, u, hv, husj, hc, hfz, hbb, hou, hub⟩ := HO.out.at_ hjl
        injection hv with hv1 hv2 hv3
        subst hv1 hv3
        have hou' : OE 23 w1.heap.size wr u ((h1, h2) :: tl) := by simpa using hou
        have hrow : RP wr u ((h1, h2) :: tl) := RE.rp hou'.re
        obtain ⟨Au, cu, rfl⟩ := hrow.form
        obtain ⟨bR, oR, rfl, ya0, yb0⟩ := hrow.at_ (k := 0) (by simp)
        have ya : wr.cell? ⟨bR, oR, none⟩ = some (.int .i64 h1) := by simpa using ya0
        clear ya0 yb0 hrow
        have HUJ := Lib.hid husj
        have HOU := Lib.hid hou'
        have HBB := Lib.hid hbb
        have HUB := Lib.hid hub
        have hnl : (out ++ [(h1, h2) :: tl]).length = out.length + 1 := by simp
        have gz : (0 : Int) < ((out ++ [(h1, h2) :: tl]).length : Int) := by rw [hnl]; omega
        have gzn : 0 < (out ++ [(h1, h2) :: tl]).length := by rw [hnl]; omega
        have hwr : IntKind.i64.wrap (((out ++ [(h1, h2) :: tl]).length : Int) - 1) = (out.length : Int) := by
          have := HGL.out
          rw [hnl] at this ⊢
          rw [IntWalk.i64_in _ (by omega)]; omega
        have gj : (out.length : Int) < ((out ++ [(h1, h2) :: tl]).length : Int) := by rw [hnl]; omega
        have gj0 : 0 ≤ (out.length : Int) := by omega
        have HNL := Lib.hid hnl
        have grl : (0 : Int) < (((h1, h2) :: tl).length : Int) := by rw [List.length_cons]; omega
        clear husj hou hou' hbb hub
        have grln : 0 < ((h1, h2) :: tl).length := by rw [List.length_cons]; omega
        have gjn : out.length < (out ++ [(h1, h2) :: tl]).length := by rw [hnl]; omega
        have g1n := HLT.out
        obtain ⟨j, hj⟩ : ∃ j, j = out.length := ⟨_, rfl⟩
        have HJ := Lib.hid hj
        have hc : wr.cell? ⟨b, j, none⟩ = some (.slice (some ⟨bR, oR, none⟩) ((h1, h2) :: tl).length cu) := by rw [hj]; exact hc
        have HFZ := Lib.hid (show wr.frozen? ⟨b, j, none⟩ = false by rw [hj]; exact hfz)
        rw [← hj] at hwr gj gj0 gjn
        generalize hF2 : out ++ [(h1, h2) :: tl] = F at *
        have HF2 := Lib.hid hF2
        generalize hrw : (h1, h2) :: tl = row at *
        have HRW := Lib.hid hrw
        have gn0 : 0 ≤ (F.length : Int) := by omega
        have hFb : (F.length : Int) ≤ 1000000 := by have := HGL.out; omega
        clear hext hk hlt hF hjl hnl hj hF2 hrw hfz
        by_cases hq : h1 = x1
        · have hqb : (h1 == x1) = true := by simpa using hq
          have HST := Lib.hid (show Rec.grpF (S.take (k + 1)) = out ++ [row ++ [(x1, x2)]] by rw [HST.out, ← HF2.out, ← HRW.out]; exact Rec.addG_yes hq)
          clear hq
          go_wp2
          refine wp_regionY [] [] Ext Ext (fun _ => True) (by kernel_rfl) (by rfl) (by rfl) (by kernel_rfl) (by kernel_rfl) (by kernel_rfl) (fun _ _ _ x y => x.trans y) Ext.refl (fun _ _ x => x) (Ext.refl _).drew (fun _ _ x _ => x) trivial ?_
          repeat (first | (refine wpY_move0 rfl rfl (by first | exact runs0 | exact runs1 rfl) Ext.refl rfl rfl rfl ?_; apply Exists.intro; refine ⟨?_, ?_⟩; · (go_simp; rfl)) | (refine wpY_move rfl rfl (by first | exact runs0 | exact runs1 rfl) Ext.refl rfl rfl rfl (fun _ _ _ h _ => h) ?_) | (refine wpY_val rfl rfl (by first | exact runs0 | exact runs1 rfl) Ext.refl rfl ?_; apply Exists.intro; refine ⟨?_, ?_⟩; · (intro a w' hR; intro h1; (first | (have e1 : _ = _ := h1) | skip); intro h2; (first | (have e2 : _ = _ := h2) | skip); go_simp; rfl)) | (refine wpY_val rfl rfl (by first | exact runs0 | exact runs1 rfl) Ext.refl rfl ?_; apply Exists.intro; refine ⟨?_, ?_⟩; · (intro a w' hR; intro h1; (first | (have e1 : _ = _ := h1) | skip); go_simp; rfl)) | (refine wpY_val rfl rfl (by first | exact runs0 | exact runs1 rfl) Ext.refl rfl ?_; apply Exists.intro; refine ⟨?_, ?_⟩; · (intro a w' hR; go_simp; rfl)) | (refine wpY_val rfl rfl (by first | exact runs0 | exact runs1 rfl) Ext.refl rfl ?_; apply Exists.intro; refine ⟨?_, ?_⟩; · (intro a w' hR; intro h1; (first | (have e1 : _ = _ := h1) | skip); intro h2; (first | (have e2 : _ = _ := h2) | skip); intro h3; (first | (have e3 : _ = _ := h3) | skip); go_simp; rfl)) | (refine wpY_skip rfl rfl (by first | exact .inl rfl | exact .inr rfl) ?_))
          refine wpY_val rfl rfl (by first | exact runs0 | exact runs1 rfl) Ext.refl rfl ?_; apply Exists.intro; refine ⟨?_, ?_⟩
          · intro a w' hR h1
            have e1 : _ = _ := h1
            have hl := hR.cell hc
            go_simp
            rfl
          repeat (first | (refine wpY_move0 rfl rfl (by first | exact runs0 | exact runs1 rfl) Ext.refl rfl rfl rfl ?_; apply Exists.intro; refine ⟨?_, ?_⟩; · (go_simp; rfl)) | (refine wpY_move rfl rfl (by first | exact runs0 | exact runs1 rfl) Ext.refl rfl rfl rfl (fun _ _ _ h _ => h) ?_) | (refine wpY_val rfl rfl (by first | exact runs0 | exact runs1 rfl) Ext.refl rfl ?_; apply Exists.intro; refine ⟨?_, ?_⟩; · (intro a w' hR; intro h1; (first | (have e1 : _ = _ := h1) | skip); intro h2; (first | (have e2 : _ = _ := h2) | skip); go_simp; rfl)) | (refine wpY_val rfl rfl (by first | exact runs0 | exact runs1 rfl) Ext.refl rfl ?_; apply Exists.intro; refine ⟨?_, ?_⟩; · (intro a w' hR; intro h1; (first | (have e1 : _ = _ := h1) | skip); go_simp; rfl)) | (refine wpY_val rfl rfl (by first | exact runs0 | exact runs1 rfl) Ext.refl rfl ?_; apply Exists.intro; refine ⟨?_, ?_⟩; · (intro a w' hR; go_simp; rfl)) | (refine wpY_val rfl rfl (by first | exact runs0 | exact runs1 rfl) Ext.refl rfl ?_; apply Exists.intro; refine ⟨?_, ?_⟩; · (intro a w' hR; intro h1; (first | (have e1 : _ = _ := h1) | skip); intro h2; (first | (have e2 : _ = _ := h2) | skip); intro h3; (first | (have e3 : _ = _ := h3) | skip); go_simp; rfl)) | (refine wpY_skip rfl rfl (by first | exact .inl rfl | exact .inr rfl) ?_))
          refine wpY_val rfl rfl (by first | exact runs0 | exact runs1 rfl) Ext.refl rfl ?_; apply Exists.intro; refine ⟨?_, ?_⟩
          · intro a w' hR h1
            have e1 : _ = _ := h1
            have hl := hR.cell ya
            go_simp
            rfl
          repeat (first | (refine wpY_move0 rfl rfl (by first | exact runs0 | exact runs1 rfl) Ext.refl rfl rfl rfl ?_; apply Exists.intro; refine ⟨?_, ?_⟩; · (go_simp; rfl)) | (refine wpY_move rfl rfl (by first | exact runs0 | exact runs1 rfl) Ext.refl rfl rfl rfl (fun _ _ _ h _ => h) ?_) | (refine wpY_val rfl rfl (by first | exact runs0 | exact runs1 rfl) Ext.refl rfl ?_; apply Exists.intro; refine ⟨?_, ?_⟩; · (intro a w' hR; intro h1; (first | (have e1 : _ = _ := h1) | skip); intro h2; (first | (have e2 : _ = _ := h2) | skip); go_simp; rfl)) | (refine wpY_val rfl rfl (by first | exact runs0 | exact runs1 rfl) Ext.refl rfl ?_; apply Exists.intro; refine ⟨?_, ?_⟩; · (intro a w' hR; intro h1; (first | (have e1 : _ = _ := h1) | skip); go_simp; rfl)) | (refine wpY_val rfl rfl (by first | exact runs0 | exact runs1 rfl) Ext.refl rfl ?_; apply Exists.intro; refine ⟨?_, ?_⟩; · (intro a w' hR; go_simp; rfl)) | (refine wpY_val rfl rfl (by first | exact runs0 | exact runs1 rfl) Ext.refl rfl ?_; apply Exists.intro; refine ⟨?_, ?_⟩; · (intro a w' hR; intro h1; (first | (have e1 : _ = _ := h1) | skip); intro h2; (first | (have e2 : _ = _ := h2) | skip); intro h3; (first | (have e3 : _ = _ := h3) | skip); go_simp; rfl)) | (refine wpY_skip rfl rfl (by first | exact .inl rfl | exact .inr rfl) ?_))
          refine wpY_val rfl rfl (by first | exact runs0 | exact runs1 rfl) Ext.refl rfl ?_; apply Exists.intro; refine ⟨?_, ?_⟩
          · intro a w' hR h1
            have e1 : _ = _ := h1
            have hl := hR.cell xa
            go_simp
            rfl
          repeat (first | (refine wpY_move0 rfl rfl (by first | exact runs0 | exact runs1 rfl) Ext.refl rfl rfl rfl ?_; apply Exists.intro; refine ⟨?_, ?_⟩; · (go_simp; rfl)) | (refine wpY_move rfl rfl (by first | exact runs0 | exact runs1 rfl) Ext.refl rfl rfl rfl (fun _ _ _ h _ => h) ?_) | (refine wpY_val rfl rfl (by first | exact runs0 | exact runs1 rfl) Ext.refl rfl ?_; apply Exists.intro; refine ⟨?_, ?_⟩; · (intro a w' hR; intro h1; (first | (have e1 : _ = _ := h1) | skip); intro h2; (first | (have e2 : _ = _ := h2) | skip); go_simp; rfl)) | (refine wpY_val rfl rfl (by first | exact runs0 | exact runs1 rfl) Ext.refl rfl ?_; apply Exists.intro; refine ⟨?_, ?_⟩; · (intro a w' hR; intro h1; (first | (have e1 : _ = _ := h1) | skip); go_simp; rfl)) | (refine wpY_val rfl rfl (by first | exact runs0 | exact runs1 rfl) Ext.refl rfl ?_; apply Exists.intro; refine ⟨?_, ?_⟩; · (intro a w' hR; go_simp; rfl)) | (refine wpY_val rfl rfl (by first | exact runs0 | exact runs1 rfl) Ext.refl rfl ?_; apply Exists.intro; refine ⟨?_, ?_⟩; · (intro a w' hR; intro h1; (first | (have e1 : _ = _ := h1) | skip); intro h2; (first | (have e2 : _ = _ := h2) | skip); intro h3; (first | (have e3 : _ = _ := h3) | skip); go_simp; rfl)) | (refine wpY_skip rfl rfl (by first | exact .inl rfl | exact .inr rfl) ?_))
          refine wpY_done ?_
          intro w5 hx5 hS
          iterate 18 (rintro _ rfl)
          dsimp only [FinV]
          go_simp
          have xa := hx5.cell xa
          have xb := hx5.cell xb
          have hc := hx5.cell hc
          have HX5 := Lib.hid (HE.out.trans hx5)
          have HX5a := Lib.hid hx5
          have HO5 := Lib.hid (HO.out.ext hx5)
          have HOU5 := Lib.hid (HOU.out.ext hx5)
          have HSZ5 := Lib.hid (Nat.le_trans HSZ.out hx5.size)
          clear hx5 hS ya
          go_upto_region 8 with fail
          have HFZ5 := Lib.hid (show w5.frozen? ⟨b, j, none⟩ = false by rw [frozen_ext HX5a.out (by exact (HO.out.own.lt b rfl).2)]; exact HFZ.out)
          have HRB := Lib.hid (show row.length ≤ 1000000 by
            have h1 := congrArg List.length HFG.out
            have h2 := HSL.out
            rw [← HF2.out, List.flatten_append, List.length_append, List.length_take] at h1
            simp at h1
            omega)
          clear grl grln gz gzn
          refine wp_region_tailZ 14 [48] [42, 46, 47] Ext (fun a b => a.grownBy b (Value.ownBlock (.slice (some ⟨bR, oR, none⟩) row.length cu))) (Ext _) (by kernel_rfl) (by kernel_rfl) (by kernel_rfl) (by kernel_rfl) (by kernel_rfl) (by kernel_rfl) (by kernel_rfl) (by rfl) (by rfl) (by kernel_rfl) (by kernel_rfl) (by kernel_rfl) (fun _ _ _ x y => x.trans y) (fun _ => World.grownBy.refl _ _) (fun _ _ x => ⟨x.os, x.tape, x.output, x.size, fun _ hk _ => x.block hk⟩) Ext.refl (Ext.refl _).drew (fun _ _ x y => x.trans y) (Ext.refl _) ?_
          repeat (first | (refine wpZ_move0 rfl rfl (fun _ => (by first | exact runs0 | exact runs1 rfl)) Ext.refl rfl rfl (fun _ => rfl) ?_; apply Exists.intro; refine ⟨?_, ?_⟩; · (go_simp; rfl)) | (refine wpZ_val rfl rfl (fun _ => (by first | exact runs0 | exact runs1 rfl)) Ext.refl rfl ?_; apply Exists.intro; refine ⟨?_, ?_⟩; · (intro c a w' hR; intro h1; (first | (have e1 : _ = _ := h1) | skip); intro h2; (first | (have e2 : _ = _ := h2) | skip); go_simp; rfl)) | (refine wpZ_val rfl rfl (fun _ => (by first | exact runs0 | exact runs1 rfl)) Ext.refl rfl ?_; apply Exists.intro; refine ⟨?_, ?_⟩; · (intro c a w' hR; intro h1; (first | (have e1 : _ = _ := h1) | skip); go_simp; rfl)) | (refine wpZ_val rfl rfl (fun _ => (by first | exact runs0 | exact runs1 rfl)) Ext.refl rfl ?_; apply Exists.intro; refine ⟨?_, ?_⟩; · (intro c a w' hR; go_simp; rfl)) | (refine wpZ_val rfl rfl (fun _ => (by first | exact runs0 | exact runs1 rfl)) Ext.refl rfl ?_; apply Exists.intro; refine ⟨?_, ?_⟩; · (intro c a w' hR; intro h1; (first | (have e1 : _ = _ := h1) | skip); intro h2; (first | (have e2 : _ = _ := h2) | skip); intro h3; (first | (have e3 : _ = _ := h3) | skip); go_simp; rfl)))
          refine wpZ_callA (fun _ v _ => v = .slice (some ⟨bR, oR, none⟩) row.length cu) rfl rfl (by first | exact runs0 | exact runs1 rfl) rfl (keptC_eq) ?_ ?_
          · intro a w' hR hS h1 K hK
            have e1 : _ = _ := h1
            have hl := (show Ext w5 w' from hS).cell hc
            go_simp
            exact hK _ _ (Ext.refl _) rfl
          repeat (first | (refine wpZ_move0 rfl rfl (fun _ => (by first | exact runs0 | exact runs1 rfl)) Ext.refl rfl rfl (fun _ => rfl) ?_; apply Exists.intro; refine ⟨?_, ?_⟩; · (go_simp; rfl)) | (refine wpZ_val rfl rfl (fun _ => (by first | exact runs0 | exact runs1 rfl)) Ext.refl rfl ?_; apply Exists.intro; refine ⟨?_, ?_⟩; · (intro c a w' hR; intro h1; (first | (have e1 : _ = _ := h1) | skip); intro h2; (first | (have e2 : _ = _ := h2) | skip); go_simp; rfl)) | (refine wpZ_val rfl rfl (fun _ => (by first | exact runs0 | exact runs1 rfl)) Ext.refl rfl ?_; apply Exists.intro; refine ⟨?_, ?_⟩; · (intro c a w' hR; intro h1; (first | (have e1 : _ = _ := h1) | skip); go_simp; rfl)) | (refine wpZ_val rfl rfl (fun _ => (by first | exact runs0 | exact runs1 rfl)) Ext.refl rfl ?_; apply Exists.intro; refine ⟨?_, ?_⟩; · (intro c a w' hR; go_simp; rfl)) | (refine wpZ_val rfl rfl (fun _ => (by first | exact runs0 | exact runs1 rfl)) Ext.refl rfl ?_; apply Exists.intro; refine ⟨?_, ?_⟩; · (intro c a w' hR; intro h1; (first | (have e1 : _ = _ := h1) | skip); intro h2; (first | (have e2 : _ = _ := h2) | skip); intro h3; (first | (have e3 : _ = _ := h3) | skip); go_simp; rfl)))
          refine wpZ_callA (fun _ v _ => v = .agg #[.int .i64 x1, .int .i64 x2]) rfl rfl (by first | exact runs0 | exact runs1 rfl) rfl (keptC_eq) ?_ ?_
          · intro a w' hR hS h1 K hK
            have e1 : _ = _ := h1
            have hl0 := (show Ext w5 w' from hS).cell xa
            have hl1 := (show Ext w5 w' from hS).cell xb
            go_simp
            exact hK _ _ (Ext.refl _) rfl
          refine wpZ_callA (fun c v w => c ≤ 0 → RP w v [(x1, x2)]) rfl rfl (by first | exact runs0 | exact runs1 rfl) rfl (keptC_0 fun _ _ _ h k => RP.ext h k) ?_ ?_
          · intro a w' hR hS h1 K hK
            have e1 : _ = _ := h1
            have q9 : a.tmps[46]?.getD undef = .agg #[.int .i64 x1, .int .i64 x2] := by simpa using e1
            go_simp
            exact hK _ _ ((Ext.refl _).alloc _) fun _ => RP.lit _ #[.int .i64 x1, .int .i64 x2] 23 1 [(x1, x2)] rfl (by omega) rfl
          refine wpZ_eff (fun c v w => 1 ≤ c ∧ (c ≤ 1 → GrownR w1.heap.size w5.heap.size (Value.ownBlock (.slice (some ⟨bR, oR, none⟩) row.length cu)) (row ++ [(x1, x2)]) v w)) (fun _ => True) rfl (by first | exact runs0 | exact runs1 rfl) rfl (keptC_at fun _ _ _ h k => GrownR.ext h k) (fun _ _ _ _ => trivial) ?_ ?_
          · intro a w' hR hS h1 h2 K hK
            have e1 : _ = _ := h1
            obtain ⟨y, ey, fy⟩ : ∃ x, a.tmps.getD 47 undef = x ∧ (fun v w => 0 ≤ 0 → RP w v [(x1, x2)]) x w' := ⟨_, rfl, h2⟩
            have hfy := fy (Nat.le_refl _)
            have hS' : Ext w5 w' := hS
            refine wp_app elemM _ (.tmp 42) (.tmp 47) rfl w1.heap.size _ row.length (pV row) e1 ((OE.op HOU5.out).ext hS').own y 1 (pV [(x1, x2)]) ey hfy.rd (one_pV _) (by have := HRB.out; omega) (by have := HRB.out; unfold maxLen; omega) (Nat.le_trans HSZ5.out hS'.size) ?_
            intro v' w2 ha
            exact hK _ _ ha.grown trivial ⟨Nat.le_refl _, fun _ => ⟨OP.app ha.own, ha.at_.imp_right fun h => ⟨_, h, hS'.size⟩⟩⟩
          refine wpZ_done ?_
          intro w6 hx6 hS6
          iterate 12 (rintro _ rfl)
          rintro v47 h47
          rintro v48 h48
          dsimp only [FinV]
          go_simp
          have hx6 : w5.grownBy w6 (Value.ownBlock (.slice (some ⟨bR, oR, none⟩) row.length cu)) := hx6
          have hgr := h48.2 (Nat.le_refl _)
          have hbl : w6.heap[b]? = w5.heap[b]? := hx6.block b (HO5.out.own.lt b rfl).2 fun e => HUB.out e.symm
          have f0 : w6.frozen? ⟨b, j, none⟩ = false := (frozen_of_block hbl).trans HFZ5.out
          have d0 : w6.cell? ⟨b, j, none⟩ = some (.slice (some ⟨bR, oR, none⟩) row.length cu) := (World.cell?_of_block (a := ⟨b, j, none⟩) hbl).trans hc
          have HGR := Lib.hid hgr
          have HX6 := Lib.hid hx6
          obtain ⟨A48, c48, rfl⟩ := hgr.own.rp.form
          have HOV := Lib.hid (OV.grow (r := [(x1, x2)]) HO5.out (by rw [← HF2.out]; simp) HUJ.out (l := row) (by simp [← HF2.out]) hx6 (hgr.at_.imp_right fun h => .inr h) (OP.oe hgr.own))
          have HXE := Lib.hid (show Ext w1 w6 from HX5.out.grown hx6 fun g hg => (HOU5.out.own.lt g hg).1)
          clear hx6 hgr hbl h47 h48 hS6 hc xa xb
          simp only [thenTail, List.drop_succ_cons, List.drop_zero]
          go_wp2
          have hov := HOV.out
          have hfs : F.set j (row ++ [(x1, x2)]) = out ++ [row ++ [(x1, x2)]] := by rw [HJ.out, ← HF2.out]; exact snoc_set _ _ _
          rw [← HJ.out, hfs, ← HST.out] at hov
          simp only [List.length_append, List.length_cons, List.length_nil, Nat.zero_add] at hov
          exact ⟨⟨k + 1, _, HLT.out, by go_num, hov, ExtQ.ext (Q := fun g => g = b) (ExtQ.setCell (Q := fun g => g = b) (p := ⟨b, j, none⟩) (ExtQ.of HXE.out) rfl _) (fun g hg => by have := HBB.out; omega)⟩, by have := HLT.out; simp [intOf]; omega⟩
        · have hqb : (h1 == x1) = false := by simpa using hq
          have HST := Lib.hid (show Rec.grpF (S.take (k + 1)) = F ++ [[(x1, x2)]] by rw [HST.out, ← HF2.out, ← HRW.out]; exact Rec.addG_no hq)
          clear hq
          go_wp2
          refine wp_regionY [] [] Ext Ext (fun _ => True) (by kernel_rfl) (by rfl) (by rfl) (by kernel_rfl) (by kernel_rfl) (by kernel_rfl) (fun _ _ _ x y => x.trans y) Ext.refl (fun _ _ x => x) (Ext.refl _).drew (fun _ _ x _ => x) trivial ?_
          repeat (first | (refine wpY_move0 rfl rfl (by first | exact runs0 | exact runs1 rfl) Ext.refl rfl rfl rfl ?_; apply Exists.intro; refine ⟨?_, ?_⟩; · (go_simp; rfl)) | (refine wpY_move rfl rfl (by first | exact runs0 | exact runs1 rfl) Ext.refl rfl rfl rfl (fun _ _ _ h _ => h) ?_) | (refine wpY_val rfl rfl (by first | exact runs0 | exact runs1 rfl) Ext.refl rfl ?_; apply Exists.intro; refine ⟨?_, ?_⟩; · (intro a w' hR; intro h1; (first | (have e1 : _ = _ := h1) | skip); intro h2; (first | (have e2 : _ = _ := h2) | skip); go_simp; rfl)) | (refine wpY_val rfl rfl (by first | exact runs0 | exact runs1 rfl) Ext.refl rfl ?_; apply Exists.intro; refine ⟨?_, ?_⟩; · (intro a w' hR; intro h1; (first | (have e1 : _ = _ := h1) | skip); go_simp; rfl)) | (refine wpY_val rfl rfl (by first | exact runs0 | exact runs1 rfl) Ext.refl rfl ?_; apply Exists.intro; refine ⟨?_, ?_⟩; · (intro a w' hR; go_simp; rfl)) | (refine wpY_val rfl rfl (by first | exact runs0 | exact runs1 rfl) Ext.refl rfl ?_; apply Exists.intro; refine ⟨?_, ?_⟩; · (intro a w' hR; intro h1; (first | (have e1 : _ = _ := h1) | skip); intro h2; (first | (have e2 : _ = _ := h2) | skip); intro h3; (first | (have e3 : _ = _ := h3) | skip); go_simp; rfl)) | (refine wpY_skip rfl rfl (by first | exact .inl rfl | exact .inr rfl) ?_))
          refine wpY_val rfl rfl (by first | exact runs0 | exact runs1 rfl) Ext.refl rfl ?_; apply Exists.intro; refine ⟨?_, ?_⟩
          · intro a w' hR h1
            have e1 : _ = _ := h1
            have hl := hR.cell hc
            go_simp
            rfl
          repeat (first | (refine wpY_move0 rfl rfl (by first | exact runs0 | exact runs1 rfl) Ext.refl rfl rfl rfl ?_; apply Exists.intro; refine ⟨?_, ?_⟩; · (go_simp; rfl)) | (refine wpY_move rfl rfl (by first | exact runs0 | exact runs1 rfl) Ext.refl rfl rfl rfl (fun _ _ _ h _ => h) ?_) | (refine wpY_val rfl rfl (by first | exact runs0 | exact runs1 rfl) Ext.refl rfl ?_; apply Exists.intro; refine ⟨?_, ?_⟩; · (intro a w' hR; intro h1; (first | (have e1 : _ = _ := h1) | skip); intro h2; (first | (have e2 : _ = _ := h2) | skip); go_simp; rfl)) | (refine wpY_val rfl rfl (by first | exact runs0 | exact runs1 rfl) Ext.refl rfl ?_; apply Exists.intro; refine ⟨?_, ?_⟩; · (intro a w' hR; intro h1; (first | (have e1 : _ = _ := h1) | skip); go_simp; rfl)) | (refine wpY_val rfl rfl (by first | exact runs0 | exact runs1 rfl) Ext.refl rfl ?_; apply Exists.intro; refine ⟨?_, ?_⟩; · (intro a w' hR; go_simp; rfl)) | (refine wpY_val rfl rfl (by first | exact runs0 | exact runs1 rfl) Ext.refl rfl ?_; apply Exists.intro; refine ⟨?_, ?_⟩; · (intro a w' hR; intro h1; (first | (have e1 : _ = _ := h1) | skip); intro h2; (first | (have e2 : _ = _ := h2) | skip); intro h3; (first | (have e3 : _ = _ := h3) | skip); go_simp; rfl)) | (refine wpY_skip rfl rfl (by first | exact .inl rfl | exact .inr rfl) ?_))
          refine wpY_val rfl rfl (by first | exact runs0 | exact runs1 rfl) Ext.refl rfl ?_; apply Exists.intro; refine ⟨?_, ?_⟩
          · intro a w' hR h1
            have e1 : _ = _ := h1
            have hl := hR.cell ya
            go_simp
            rfl
          repeat (first | (refine wpY_move0 rfl rfl (by first | exact runs0 | exact runs1 rfl) Ext.refl rfl rfl rfl ?_; apply Exists.intro; refine ⟨?_, ?_⟩; · (go_simp; rfl)) | (refine wpY_move rfl rfl (by first | exact runs0 | exact runs1 rfl) Ext.refl rfl rfl rfl (fun _ _ _ h _ => h) ?_) | (refine wpY_val rfl rfl (by first | exact runs0 | exact runs1 rfl) Ext.refl rfl ?_; apply Exists.intro; refine ⟨?_, ?_⟩; · (intro a w' hR; intro h1; (first | (have e1 : _ = _ := h1) | skip); intro h2; (first | (have e2 : _ = _ := h2) | skip); go_simp; rfl)) | (refine wpY_val rfl rfl (by first | exact runs0 | exact runs1 rfl) Ext.refl rfl ?_; apply Exists.intro; refine ⟨?_, ?_⟩; · (intro a w' hR; intro h1; (first | (have e1 : _ = _ := h1) | skip); go_simp; rfl)) | (refine wpY_val rfl rfl (by first | exact runs0 | exact runs1 rfl) Ext.refl rfl ?_; apply Exists.intro; refine ⟨?_, ?_⟩; · (intro a w' hR; go_simp; rfl)) | (refine wpY_val rfl rfl (by first | exact runs0 | exact runs1 rfl) Ext.refl rfl ?_; apply Exists.intro; refine ⟨?_, ?_⟩; · (intro a w' hR; intro h1; (first | (have e1 : _ = _ := h1) | skip); intro h2; (first | (have e2 : _ = _ := h2) | skip); intro h3; (first | (have e3 : _ = _ := h3) | skip); go_simp; rfl)) | (refine wpY_skip rfl rfl (by first | exact .inl rfl | exact .inr rfl) ?_))
          refine wpY_val rfl rfl (by first | exact runs0 | exact runs1 rfl) Ext.refl rfl ?_; apply Exists.intro; refine ⟨?_, ?_⟩
          · intro a w' hR h1
            have e1 : _ = _ := h1
            have hl := hR.cell xa
            go_simp
            rfl
          repeat (first | (refine wpY_move0 rfl rfl (by first | exact runs0 | exact runs1 rfl) Ext.refl rfl rfl rfl ?_; apply Exists.intro; refine ⟨?_, ?_⟩; · (go_simp; rfl)) | (refine wpY_move rfl rfl (by first | exact runs0 | exact runs1 rfl) Ext.refl rfl rfl rfl (fun _ _ _ h _ => h) ?_) | (refine wpY_val rfl rfl (by first | exact runs0 | exact runs1 rfl) Ext.refl rfl ?_; apply Exists.intro; refine ⟨?_, ?_⟩; · (intro a w' hR; intro h1; (first | (have e1 : _ = _ := h1) | skip); intro h2; (first | (have e2 : _ = _ := h2) | skip); go_simp; rfl)) | (refine wpY_val rfl rfl (by first | exact runs0 | exact runs1 rfl) Ext.refl rfl ?_; apply Exists.intro; refine ⟨?_, ?_⟩; · (intro a w' hR; intro h1; (first | (have e1 : _ = _ := h1) | skip); go_simp; rfl)) | (refine wpY_val rfl rfl (by first | exact runs0 | exact runs1 rfl) Ext.refl rfl ?_; apply Exists.intro; refine ⟨?_, ?_⟩; · (intro a w' hR; go_simp; rfl)) | (refine wpY_val rfl rfl (by first | exact runs0 | exact runs1 rfl) Ext.refl rfl ?_; apply Exists.intro; refine ⟨?_, ?_⟩; · (intro a w' hR; intro h1; (first | (have e1 : _ = _ := h1) | skip); intro h2; (first | (have e2 : _ = _ := h2) | skip); intro h3; (first | (have e3 : _ = _ := h3) | skip); go_simp; rfl)) | (refine wpY_skip rfl rfl (by first | exact .inl rfl | exact .inr rfl) ?_))
          refine wpY_done ?_
          intro w5 hx5 hS
          iterate 18 (rintro _ rfl)
          dsimp only [FinV]
          go_simp
          have xa := hx5.cell xa
          have xb := hx5.cell xb
          have HX5 := Lib.hid (HE.out.trans hx5)
          have HO5 := Lib.hid (HO.out.ext hx5)
          have HSZ5 := Lib.hid (Nat.le_trans HSZ.out hx5.size)
          clear hx5 hS ya hc
          go_upto_region 9 with fail
          have hxl : Ext w5 (w5.alloc (.cells #[.int .i64 x1, .int .i64 x2] 23)) := (Ext.refl _).alloc _
          have HOL := Lib.hid ((HO5.out.ext hxl).ext ((Ext.refl _).alloc (.cells #[.slice (some ⟨w5.heap.size, 0, none⟩) 1 1] 24)))
          have HXL := Lib.hid (((Ext.refl w5).alloc (.cells #[.int .i64 x1, .int .i64 x2] 23)).alloc (.cells #[.slice (some ⟨w5.heap.size, 0, none⟩) 1 1] 24))
          have HLIT := Lib.hid (show Rd ((w5.alloc (.cells #[.int .i64 x1, .int .i64 x2] 23)).alloc (.cells #[.slice (some ⟨w5.heap.size, 0, none⟩) 1 1] 24)) 1 (.slice (some ⟨w5.heap.size + 1, 0, none⟩) 1 1) 1 [.slice (some ⟨w5.heap.size, 0, none⟩) 1 1] by
            have := Rd.lit (w5.alloc (.cells #[.int .i64 x1, .int .i64 x2] 23)) #[.slice (some ⟨w5.heap.size, 0, none⟩) 1 1] 24 (size := 1) 1 rfl (by unfold maxLen; omega)
            simpa using this)
          clear hxl
          go_wp2_with (at_builtin; refine wpList_app rfl elemSS ((w5.alloc (.cells #[.int .i64 x1, .int .i64 x2] 23)).alloc (.cells #[.slice (some ⟨w5.heap.size, 0, none⟩) 1 1] 24)) _ _ rfl w1.heap.size _ F.length us rfl HOL.out.own _ 1 [.slice (some ⟨w5.heap.size, 0, none⟩) 1 1] rfl HLIT.out (by intro u hu; rw [List.mem_singleton.1 hu]; rfl) (by have := HGL.out; omega) (by have := HGL.out; unfold maxLen; omega) (Nat.le_trans HSZ5.out HXL.out.size) ?_; intro v8 w8 ha)
          exact ⟨⟨k + 1, us ++ [.slice (some ⟨w5.heap.size, 0, none⟩) 1 1], HLT.out, by go_num, by rw [HST.out]; exact rgrp_push HO5.out HSZ5.out ha, ha.ext (HX5.out.trans HXL.out) rfl HOL.out.own⟩, by have := HLT.out; simp [intOf]; omega⟩
    · obtain rfl : k = S.length := by omega
      have g1 : ¬ (S.length : Int) < (S.length : Int) := by omega
      have hown2 := HO.out
      rw [List.take_length] at hown2
      clear hext
      go_wp2
      go_ret
      exact ⟨_, rfl, hown2.rv.map (fun u x q => RE.rp q), HX1.out.trans HE.out⟩
end Go.Proofs.Ytgmaeeihfoicmaa
