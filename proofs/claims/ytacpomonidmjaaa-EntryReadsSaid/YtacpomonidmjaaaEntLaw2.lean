/-
  Layer 7: EntryReads.
-/
import Derived.Test.YtacpomonidmjaaaEntLives
namespace Go.Ox.Ent
theorem pkF_small : ∀ (l : List E), (l.flatMap entL).length ≤ 43 → l ≠ [] → pkF l = [l.flatMap entL] := by
  intro l
  induction l using snoc_ind with
  | h0 => exact fun _ h => absurd rfl h
  | h1 l e ih =>
    intro hl _
    rw [List.flatMap_append, List.length_append, List.flatMap_cons, List.flatMap_nil, List.append_nil] at hl
    have e1 : (l ++ [e]).flatMap entL = l.flatMap entL ++ entL e := by simp
    rw [pkF_snoc, e1]
    by_cases hn : l = []
    · subst hn; rfl
    · rw [ih (by omega) hn]
      exact addP_more (out := []) (by omega)
theorem flat_ge : ∀ {l : List E}, (∀ e ∈ l, okE e = 0) → 4 * l.length ≤ (l.flatMap entL).length
  | [], _ => by simp
  | e :: l, h => by
    have h1 := (entL_len (h e List.mem_cons_self)).1
    have h2 := flat_ge fun x hx => h x (List.mem_cons_of_mem _ hx)
    rw [List.flatMap_cons, List.length_append, List.length_cons]; omega
end Go.Ox.Ent
namespace Go.Proofs.Ytacpomonidmjaaa
open Go.RowKit Go.Ox Go.Shelf
set_option linter.unusedVariables false
set_option linter.unusedSimpArgs false

/-- what was unpacked is packed again -/
theorem un_pack {b : List UInt8} {l : List Ent.E} (h : un b = some l) (hl : b.length ≤ 43) : Ent.may l = 0 ∧ ((b = [] ∧ Ent.pkF l = []) ∨ (b ≠ [] ∧ Ent.pkF l = [b])) := by
  obtain ⟨h1, h2⟩ := un_back _ (Nat.le_refl _) h
  have h3 := Ent.flat_ge h1
  rw [← h2] at h3
  refine ⟨Ent.may_of h1 (by omega), ?_⟩
  by_cases hb : b = []
  · have : l = [] := List.eq_nil_of_length_eq_zero (by rw [hb] at h3; simp only [List.length_nil] at h3; omega)
    subst this
    exact .inl ⟨hb, rfl⟩
  · have hn : l ≠ [] := fun q => by subst q; exact hb (by rw [h2]; rfl)
    exact .inr ⟨hb, by rw [Ent.pkF_small l (by rw [← h2]; exact hl) hn, ← h2]⟩
theorem bs_eqL (l : List UInt8) : ((⟨l.toArray⟩ : ByteArray) == ⟨l.toArray⟩) = true := by rw [str_eq]; simp
attribute [local irreducible] RE RB RP OP OE

set_option maxRecDepth 100000 in
set_option maxHeartbeats 8000000 in
theorem entryReads_row (v : Value) (b : List UInt8) (w : World) (hv : RB w v b) :
    Calls Try.prog 5 #[v] w fun e w' => e = .returned (.bool true) ∧ Ext w w' := by
  have HV := Lib.hid hv
  obtain ⟨A, c, rfl⟩ := RB.form hv
  clear hv
  by_cases hl : 1000 < b.length
  · have g : (1000 : Int) < (b.length : Int) := by omega
    go_enter Try.func5, Try.ntmps5
    go_wp2_with fail
    refine (lives_any _).mono ?_
    rintro e w1 ⟨rfl, he1⟩
    go_wp2
    go_ret
    exact ⟨rfl, he1⟩
  have g : ¬ (1000 : Int) < (b.length : Int) := by omega
  have HUN := Lib.hid (fun w h => unp_any (.slice A b.length c) b w h (by omega))
  have HRU := Lib.hid (fun w h => runp_any (.slice A b.length c) b w h (by omega))
  by_cases hlong : 43 < b.length
  · have g1 : (43 : Int) < (b.length : Int) := by omega
    rw [(unL_long hlong).1, (unL_long hlong).2] at HUN
    clear hlong hl HRU
    go_enter Try.func5, Try.ntmps5
    go_wp2_with fail
    refine (HUN.out _ HV.out).mono ?_
    rintro e w1 ⟨u, rfl, hu, he1⟩
    obtain ⟨Au, cu, rfl⟩ : ∃ A c, u = .slice A 0 c := hu.form
    have HX1 := Lib.hid he1
    clear hu he1
    go_wp2_with fail
    refine (lives_any _).mono ?_
    rintro e w2 ⟨rfl, he2⟩
    go_wp2
    go_ret
    exact ⟨rfl, HX1.out.trans he2⟩
  have g1 : ¬ (43 : Int) < (b.length : Int) := by omega
  cases hun : un b with
  | none =>
    rw [(unL_none hlong hun).1, (unL_none hlong hun).2] at HUN
    rw [hun] at HRU
    clear hlong hl hun
    go_enter Try.func5, Try.ntmps5
    go_wp2_with fail
    refine (HUN.out _ HV.out).mono ?_
    rintro e w1 ⟨u, rfl, hu, he1⟩
    obtain ⟨Au, cu, rfl⟩ : ∃ A c, u = .slice A 0 c := hu.form
    have HX1 := Lib.hid he1
    clear hu he1
    go_wp2_with fail
    refine (lives_any _).mono ?_
    rintro e w2 ⟨rfl, he2⟩
    have HX2 := Lib.hid (HX1.out.trans he2)
    go_wp2_with fail
    refine (HRU.out _ (HV.out.ext HX2.out)).mono ?_
    rintro e w3 ⟨z, rfl, hz, he3⟩
    go_wp2
    go_ret
    exact ⟨rfl, HX2.out.trans he3⟩
  | some l =>
    obtain ⟨hmay, hpk⟩ := un_pack hun (by omega)
    rw [(unL_some hlong hun).1, (unL_some hlong hun).2] at HUN
    rw [hun] at HRU
    have HPK := Lib.hid (fun v w h => pack_ok v l w h hmay)
    have HPF := Lib.hid hpk
    clear hlong hl hun hmay hpk
    generalize Ent.pkF l = pk at *
    go_enter Try.func5, Try.ntmps5
    go_wp2_with fail
    refine (HUN.out _ HV.out).mono ?_
    rintro e w1 ⟨u, rfl, hu, he1⟩
    have HU1 := Lib.hid hu
    obtain ⟨Au, cu, rfl⟩ := hu.form
    have HX1 := Lib.hid he1
    clear hu he1
    go_wp2_with fail
    refine (lives_any _).mono ?_
    rintro e w2 ⟨rfl, he2⟩
    have HX2 := Lib.hid (HX1.out.trans he2)
    have HU2 := Lib.hid (HU1.out.ext he2)
    clear he2 HX1 HU1
    go_wp2_with fail
    refine (HRU.out _ (HV.out.ext HX2.out)).mono ?_
    rintro e w3 ⟨z, rfl, hz, he3⟩
    have HZ3 := Lib.hid (show RE w3 z l from hz)
    obtain ⟨Az, cz, rfl⟩ := HZ3.out.form
    have HX3 := Lib.hid (HX2.out.trans he3)
    have HU3 := Lib.hid (HU2.out.ext he3)
    clear hz he3 HX2 HU2
    go_wp2_with fail
    refine (HPK.out _ _ HU3.out).mono ?_
    rintro e w4 ⟨p, rfl, hp, he4⟩
    have HP4 := Lib.hid hp
    have HU4 := Lib.hid (HU3.out.ext he4)
    have HZ4 := Lib.hid (HZ3.out.ext he4)
    have HX4 := Lib.hid (HX3.out.trans he4)
    have HV4 := Lib.hid (HV.out.ext HX4.out)
    clear hp he4 HU3 HZ3 HX3 HV HPK HRU HUN
    rcases HPF.out with ⟨hb, hk⟩ | ⟨hb, hk⟩
    · subst hb
      subst hk
      obtain ⟨Ap, cp, rfl⟩ : ∃ A c, p = .slice A 0 c := HP4.out.form
      go_wp2
      refine wp_regionY [] [] Ext Ext (fun _ => True) (by kernel_rfl) (by rfl) (by rfl) (by kernel_rfl) (by kernel_rfl) (by kernel_rfl) (fun _ _ _ x y => x.trans y) Ext.refl (fun _ _ x => x) (Ext.refl _).drew (fun _ _ x _ => x) trivial ?_
      repeat (first | (refine wpY_move0 rfl rfl (by first | exact runs0 | exact runs1 rfl) Ext.refl rfl rfl rfl ?_; apply Exists.intro; refine ⟨?_, ?_⟩; · (go_simp; rfl)) | (refine wpY_move rfl rfl (by first | exact runs0 | exact runs1 rfl) Ext.refl rfl rfl rfl (fun _ _ _ h _ => h) ?_) | (refine wpY_val rfl rfl (by first | exact runs0 | exact runs1 rfl) Ext.refl rfl ?_; apply Exists.intro; refine ⟨?_, ?_⟩; · (intro a w' hR; intro h1; (first | (have e1 : _ = _ := h1) | skip); intro h2; (first | (have e2 : _ = _ := h2) | skip); go_simp; rfl)) | (refine wpY_val rfl rfl (by first | exact runs0 | exact runs1 rfl) Ext.refl rfl ?_; apply Exists.intro; refine ⟨?_, ?_⟩; · (intro a w' hR; intro h1; (first | (have e1 : _ = _ := h1) | skip); go_simp; rfl)) | (refine wpY_val rfl rfl (by first | exact runs0 | exact runs1 rfl) Ext.refl rfl ?_; apply Exists.intro; refine ⟨?_, ?_⟩; · (intro a w' hR; go_simp; rfl)) | (refine wpY_val rfl rfl (by first | exact runs0 | exact runs1 rfl) Ext.refl rfl ?_; apply Exists.intro; refine ⟨?_, ?_⟩; · (intro a w' hR; intro h1; (first | (have e1 : _ = _ := h1) | skip); intro h2; (first | (have e2 : _ = _ := h2) | skip); intro h3; (first | (have e3 : _ = _ := h3) | skip); go_simp; rfl)) | (refine wpY_skip rfl rfl (by first | exact .inl rfl | exact .inr rfl) ?_))
      refine wpY_call (fun v _ => v = .bool true) rfl rfl (by first | exact runs0 | exact runs1 rfl) rfl (by first | exact mono_eq | exact (fun _ _ _ h k => Rd.ext h k) | exact (fun _ _ _ h k => RB.ext h k) | exact (fun _ _ _ h k => OB.ext h k) | exact (fun _ _ _ h k => RB.extS h k) | exact (fun _ _ _ h k => Rd.ext h (GrownW.ext k)) | exact (fun _ _ _ h k => RP.ext h k) | exact (fun _ _ _ h k => OP.ext h k) | exact (fun _ _ _ h k => Rd.extV h k) | exact (fun _ _ _ h k => RB.extV h k) | exact (fun _ _ _ h k => E0.ext h k) | exact (fun _ _ _ h k => O0.ext h k) | exact (fun _ _ _ h k => RE.ext h k) | exact (fun _ _ _ h k => RE.extD h k) | exact (fun _ _ _ h _ => h) | exact (fun _ _ _ ⟨n, h1, h2⟩ k => ⟨n, h1, k.st _ _ h2⟩)) ?_ ?_
      · intro a w' hR h1 h2 K hK
        have e1 : _ = _ := h1
        have e2 : _ = _ := h2
        go_simp
        refine (sameE_is _ _ _ w' (HU4.out.ext hR) (HZ4.out.ext hR)).mono ?_
        rintro e w2 ⟨rfl, he⟩
        exact hK _ _ he rfl
      repeat (first | (refine wpY_move0 rfl rfl (by first | exact runs0 | exact runs1 rfl) Ext.refl rfl rfl rfl ?_; apply Exists.intro; refine ⟨?_, ?_⟩; · (go_simp; rfl)) | (refine wpY_move rfl rfl (by first | exact runs0 | exact runs1 rfl) Ext.refl rfl rfl rfl (fun _ _ _ h _ => h) ?_) | (refine wpY_val rfl rfl (by first | exact runs0 | exact runs1 rfl) Ext.refl rfl ?_; apply Exists.intro; refine ⟨?_, ?_⟩; · (intro a w' hR; intro h1; (first | (have e1 : _ = _ := h1) | skip); intro h2; (first | (have e2 : _ = _ := h2) | skip); go_simp; rfl)) | (refine wpY_val rfl rfl (by first | exact runs0 | exact runs1 rfl) Ext.refl rfl ?_; apply Exists.intro; refine ⟨?_, ?_⟩; · (intro a w' hR; intro h1; (first | (have e1 : _ = _ := h1) | skip); go_simp; rfl)) | (refine wpY_val rfl rfl (by first | exact runs0 | exact runs1 rfl) Ext.refl rfl ?_; apply Exists.intro; refine ⟨?_, ?_⟩; · (intro a w' hR; go_simp; rfl)) | (refine wpY_val rfl rfl (by first | exact runs0 | exact runs1 rfl) Ext.refl rfl ?_; apply Exists.intro; refine ⟨?_, ?_⟩; · (intro a w' hR; intro h1; (first | (have e1 : _ = _ := h1) | skip); intro h2; (first | (have e2 : _ = _ := h2) | skip); intro h3; (first | (have e3 : _ = _ := h3) | skip); go_simp; rfl)) | (refine wpY_skip rfl rfl (by first | exact .inl rfl | exact .inr rfl) ?_))
      refine wpY_done ?_
      intro w7 hx7 hS
      iterate 36 (rintro _ rfl)
      dsimp only [FinV]
      go_simp
      have hx7 : Ext w4 w7 := hx7
      go_wp2
      go_ret
      exact ⟨rfl, HX4.out.trans hx7⟩
    · subst hk
      obtain ⟨Ap, cp, rfl⟩ : ∃ A c, p = .slice A 1 c := HP4.out.form
      obtain ⟨bp, op, up, hpe, p0, hup⟩ := HP4.out.at_ (k := 0) (by simp)
      subst hpe
      have p0 : w4.cell? ⟨bp, op, none⟩ = some up := p0
      have HUP := Lib.hid (show RB w4 up b from hup)
      have hz : ((b.length : Int) == 0) = false := by rw [beq_eq_false_iff_ne]; have := List.length_pos_iff.2 hb; omega
      have hbb := bs_eqL b
      clear hb hup
      go_wp2
      refine wp_regionY [] [] Ext Ext (fun _ => True) (by kernel_rfl) (by rfl) (by rfl) (by kernel_rfl) (by kernel_rfl) (by kernel_rfl) (fun _ _ _ x y => x.trans y) Ext.refl (fun _ _ x => x) (Ext.refl _).drew (fun _ _ x _ => x) trivial ?_
      repeat (first | (refine wpY_move0 rfl rfl (by first | exact runs0 | exact runs1 rfl) Ext.refl rfl rfl rfl ?_; apply Exists.intro; refine ⟨?_, ?_⟩; · (go_simp; rfl)) | (refine wpY_move rfl rfl (by first | exact runs0 | exact runs1 rfl) Ext.refl rfl rfl rfl (fun _ _ _ h _ => h) ?_) | (refine wpY_val rfl rfl (by first | exact runs0 | exact runs1 rfl) Ext.refl rfl ?_; apply Exists.intro; refine ⟨?_, ?_⟩; · (intro a w' hR; intro h1; (first | (have e1 : _ = _ := h1) | skip); intro h2; (first | (have e2 : _ = _ := h2) | skip); go_simp; rfl)) | (refine wpY_val rfl rfl (by first | exact runs0 | exact runs1 rfl) Ext.refl rfl ?_; apply Exists.intro; refine ⟨?_, ?_⟩; · (intro a w' hR; intro h1; (first | (have e1 : _ = _ := h1) | skip); go_simp; rfl)) | (refine wpY_val rfl rfl (by first | exact runs0 | exact runs1 rfl) Ext.refl rfl ?_; apply Exists.intro; refine ⟨?_, ?_⟩; · (intro a w' hR; go_simp; rfl)) | (refine wpY_val rfl rfl (by first | exact runs0 | exact runs1 rfl) Ext.refl rfl ?_; apply Exists.intro; refine ⟨?_, ?_⟩; · (intro a w' hR; intro h1; (first | (have e1 : _ = _ := h1) | skip); intro h2; (first | (have e2 : _ = _ := h2) | skip); intro h3; (first | (have e3 : _ = _ := h3) | skip); go_simp; rfl)) | (refine wpY_skip rfl rfl (by first | exact .inl rfl | exact .inr rfl) ?_))
      refine wpY_call (fun v _ => v = .bool true) rfl rfl (by first | exact runs0 | exact runs1 rfl) rfl (by first | exact mono_eq | exact (fun _ _ _ h k => Rd.ext h k) | exact (fun _ _ _ h k => RB.ext h k) | exact (fun _ _ _ h k => OB.ext h k) | exact (fun _ _ _ h k => RB.extS h k) | exact (fun _ _ _ h k => Rd.ext h (GrownW.ext k)) | exact (fun _ _ _ h k => RP.ext h k) | exact (fun _ _ _ h k => OP.ext h k) | exact (fun _ _ _ h k => Rd.extV h k) | exact (fun _ _ _ h k => RB.extV h k) | exact (fun _ _ _ h k => E0.ext h k) | exact (fun _ _ _ h k => O0.ext h k) | exact (fun _ _ _ h k => RE.ext h k) | exact (fun _ _ _ h k => RE.extD h k) | exact (fun _ _ _ h _ => h) | exact (fun _ _ _ ⟨n, h1, h2⟩ k => ⟨n, h1, k.st _ _ h2⟩)) ?_ ?_
      · intro a w' hR h1 h2 K hK
        have e1 : _ = _ := h1
        have e2 : _ = _ := h2
        go_simp
        refine (sameE_is _ _ _ w' (HU4.out.ext hR) (HZ4.out.ext hR)).mono ?_
        rintro e w2 ⟨rfl, he⟩
        exact hK _ _ he rfl
      repeat (first | (refine wpY_move0 rfl rfl (by first | exact runs0 | exact runs1 rfl) Ext.refl rfl rfl rfl ?_; apply Exists.intro; refine ⟨?_, ?_⟩; · (go_simp; rfl)) | (refine wpY_move rfl rfl (by first | exact runs0 | exact runs1 rfl) Ext.refl rfl rfl rfl (fun _ _ _ h _ => h) ?_) | (refine wpY_val rfl rfl (by first | exact runs0 | exact runs1 rfl) Ext.refl rfl ?_; apply Exists.intro; refine ⟨?_, ?_⟩; · (intro a w' hR; intro h1; (first | (have e1 : _ = _ := h1) | skip); intro h2; (first | (have e2 : _ = _ := h2) | skip); go_simp; rfl)) | (refine wpY_val rfl rfl (by first | exact runs0 | exact runs1 rfl) Ext.refl rfl ?_; apply Exists.intro; refine ⟨?_, ?_⟩; · (intro a w' hR; intro h1; (first | (have e1 : _ = _ := h1) | skip); go_simp; rfl)) | (refine wpY_val rfl rfl (by first | exact runs0 | exact runs1 rfl) Ext.refl rfl ?_; apply Exists.intro; refine ⟨?_, ?_⟩; · (intro a w' hR; go_simp; rfl)) | (refine wpY_val rfl rfl (by first | exact runs0 | exact runs1 rfl) Ext.refl rfl ?_; apply Exists.intro; refine ⟨?_, ?_⟩; · (intro a w' hR; intro h1; (first | (have e1 : _ = _ := h1) | skip); intro h2; (first | (have e2 : _ = _ := h2) | skip); intro h3; (first | (have e3 : _ = _ := h3) | skip); go_simp; rfl)) | (refine wpY_skip rfl rfl (by first | exact .inl rfl | exact .inr rfl) ?_))
      refine wpY_val rfl rfl (by first | exact runs0 | exact runs1 rfl) Ext.refl rfl ?_; apply Exists.intro; refine ⟨?_, ?_⟩
      · intro a w' hR h1
        have e1 : _ = _ := h1
        have hl0 := hR.cell p0
        go_simp
        rfl
      refine wpY_val rfl rfl (by first | exact runs0 | exact runs1 rfl) Ext.refl rfl ?_; apply Exists.intro; refine ⟨?_, ?_⟩
      · intro a w' hR h1
        have e1 : _ = _ := h1
        have hs := strB (HUP.out.ext hR)
        go_simp
        rfl
      repeat (first | (refine wpY_move0 rfl rfl (by first | exact runs0 | exact runs1 rfl) Ext.refl rfl rfl rfl ?_; apply Exists.intro; refine ⟨?_, ?_⟩; · (go_simp; rfl)) | (refine wpY_move rfl rfl (by first | exact runs0 | exact runs1 rfl) Ext.refl rfl rfl rfl (fun _ _ _ h _ => h) ?_) | (refine wpY_val rfl rfl (by first | exact runs0 | exact runs1 rfl) Ext.refl rfl ?_; apply Exists.intro; refine ⟨?_, ?_⟩; · (intro a w' hR; intro h1; (first | (have e1 : _ = _ := h1) | skip); intro h2; (first | (have e2 : _ = _ := h2) | skip); go_simp; rfl)) | (refine wpY_val rfl rfl (by first | exact runs0 | exact runs1 rfl) Ext.refl rfl ?_; apply Exists.intro; refine ⟨?_, ?_⟩; · (intro a w' hR; intro h1; (first | (have e1 : _ = _ := h1) | skip); go_simp; rfl)) | (refine wpY_val rfl rfl (by first | exact runs0 | exact runs1 rfl) Ext.refl rfl ?_; apply Exists.intro; refine ⟨?_, ?_⟩; · (intro a w' hR; go_simp; rfl)) | (refine wpY_val rfl rfl (by first | exact runs0 | exact runs1 rfl) Ext.refl rfl ?_; apply Exists.intro; refine ⟨?_, ?_⟩; · (intro a w' hR; intro h1; (first | (have e1 : _ = _ := h1) | skip); intro h2; (first | (have e2 : _ = _ := h2) | skip); intro h3; (first | (have e3 : _ = _ := h3) | skip); go_simp; rfl)) | (refine wpY_skip rfl rfl (by first | exact .inl rfl | exact .inr rfl) ?_))
      refine wpY_val rfl rfl (by first | exact runs0 | exact runs1 rfl) Ext.refl rfl ?_; apply Exists.intro; refine ⟨?_, ?_⟩
      · intro a w' hR h1
        have e1 : _ = _ := h1
        have hs := strB (HV4.out.ext hR)
        go_simp
        rfl
      repeat (first | (refine wpY_move0 rfl rfl (by first | exact runs0 | exact runs1 rfl) Ext.refl rfl rfl rfl ?_; apply Exists.intro; refine ⟨?_, ?_⟩; · (go_simp; rfl)) | (refine wpY_move rfl rfl (by first | exact runs0 | exact runs1 rfl) Ext.refl rfl rfl rfl (fun _ _ _ h _ => h) ?_) | (refine wpY_val rfl rfl (by first | exact runs0 | exact runs1 rfl) Ext.refl rfl ?_; apply Exists.intro; refine ⟨?_, ?_⟩; · (intro a w' hR; intro h1; (first | (have e1 : _ = _ := h1) | skip); intro h2; (first | (have e2 : _ = _ := h2) | skip); go_simp; rfl)) | (refine wpY_val rfl rfl (by first | exact runs0 | exact runs1 rfl) Ext.refl rfl ?_; apply Exists.intro; refine ⟨?_, ?_⟩; · (intro a w' hR; intro h1; (first | (have e1 : _ = _ := h1) | skip); go_simp; rfl)) | (refine wpY_val rfl rfl (by first | exact runs0 | exact runs1 rfl) Ext.refl rfl ?_; apply Exists.intro; refine ⟨?_, ?_⟩; · (intro a w' hR; go_simp; rfl)) | (refine wpY_val rfl rfl (by first | exact runs0 | exact runs1 rfl) Ext.refl rfl ?_; apply Exists.intro; refine ⟨?_, ?_⟩; · (intro a w' hR; intro h1; (first | (have e1 : _ = _ := h1) | skip); intro h2; (first | (have e2 : _ = _ := h2) | skip); intro h3; (first | (have e3 : _ = _ := h3) | skip); go_simp; rfl)) | (refine wpY_skip rfl rfl (by first | exact .inl rfl | exact .inr rfl) ?_))
      refine wpY_done ?_
      intro w7 hx7 hS
      iterate 36 (rintro _ rfl)
      dsimp only [FinV]
      go_simp
      have hx7 : Ext w4 w7 := hx7
      go_wp2
      go_ret
      exact ⟨rfl, HX4.out.trans hx7⟩
theorem entryReads_law (w : World) (v : Value) (b : List UInt8) (hv : RB w v b) :
    Calls Try.prog 5 #[v] w fun e w' => e = .returned (.bool true) ∧ Ext w w' := entryReads_row v b w hv
end Go.Proofs.Ytacpomonidmjaaa
