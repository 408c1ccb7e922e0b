/-
  ScrLineR, packed: what the claim needs of them.
-/
import Derived.Deep.DeepCutAuto
import Derived.Test.YtpmpjjhchkoboaaGreatDoorPa24
namespace Go.Proofs.YtpmpjjhchkoboaaGreatDoor
open Go.RowKit Go.Ox Go.Ox.Gr Go.Ox.Sc
set_option linter.unusedVariables false
set_option linter.unusedSimpArgs false
attribute [local irreducible] RE OE
set_option maxRecDepth 100000 in
set_option maxHeartbeats 8000000 in
theorem rAct_any (k n a b t : Int) (u : Value) (ks : List Int) (w : World) (hu : RE w u ks) :
    Calls Tryz.prog 17 #[actAg k n a b t u] w fun e w' => e = .returned (strV (actS ((k, n, a, b, t), ks))) ∧ Ext w w' := by
  have HX := Lib.hid ((Ext.refl w).alloc (actCs k n a b t u))
  have HB := Lib.hid (Bx6.new w 47 (.int .i64 k) (.int .i64 n) (.int .i64 a) (.int .i64 b) (.int .i64 t) u)
  have HU := Lib.hid (RE.ext hu HX.out)
  have HC := Lib.hid (fun w h => actMay_any k n a b t u ks w h)
  have HN := Lib.hid (fun h => @actOk_nums k n a b t ks h)
  have HSM := Lib.hid (show actOk ((k, n, a, b, t), ks) = true → n ≤ 65536 ∧ a ≤ 65536 ∧ b ≤ 480 ∧ t ≤ 4294967295 ∧ ∀ x ∈ ks, x ≤ 64 from fun h => by
    unfold actOk inR at h
    simp only [Bool.and_eq_true, decide_eq_true_eq, List.all_eq_true] at h
    obtain ⟨⟨⟨⟨⟨⟨⟨h1, h2⟩, h3⟩, h4⟩, h5⟩, h6⟩, h7⟩, h8⟩ := h
    exact ⟨h3.2, h4.2, h5.2, h6.2, fun x hx => (h8 x hx).2⟩)
  have HR := Lib.hid (show actS ((k, n, a, b, t), ks) = if actOk ((k, n, a, b, t), ks) = true then
    if k = 1 then [112, 105, 99, 107] ++ ([n, a].flatMap fun x => 32 :: Lib.decDigits x.toNat)
    else if k = 2 then [115, 116, 111, 112] ++ ([n].flatMap fun x => 32 :: Lib.decDigits x.toNat)
    else if k = 3 then [99, 114, 97, 115, 104] ++ (ks.flatMap fun x => 32 :: Lib.decDigits x.toNat)
    else if k = 4 then [102, 108, 105, 112] ++ ([a, n, b, t].flatMap fun x => 32 :: Lib.decDigits x.toNat)
    else [114, 117, 110] ++ ([n, a].flatMap fun x => 32 :: Lib.decDigits x.toNat)
  else [] from rfl)
  generalize actS ((k, n, a, b, t), ks) = res at *
  generalize actOk ((k, n, a, b, t), ks) = ok at *
  obtain ⟨A, c, rfl⟩ := hu.form
  clear hu
  go_enter Tryz.func17, Tryz.ntmps17
  go_upto_region 1 with fail
  generalize w.heap.size = p at *
  generalize w.alloc (actCs k n a b t (.slice A ks.length c)) = w0 at *
  obtain ⟨c0, c1, c2, c3, c4, c5⟩ := HB.out.at_
  go_wp2_with fail
  refine (HC.out _ HU.out).mono ?_
  rintro e w1 ⟨rfl, he1⟩
  have HX1 := Lib.hid (HX.out.trans he1)
  have HB1 := Lib.hid (HB.out.ext he1)
  have HU1 := Lib.hid (RE.ext HU.out he1)
  clear he1 c0 c1 c2 c3 c4 c5
  obtain ⟨c0, c1, c2, c3, c4, c5⟩ := HB1.out.at_
  cases ok with
  | false =>
    obtain rfl : res = [] := HR.out
    go_wp2
    go_ret
    exact ⟨rfl, HX1.out⟩
  | true =>
    obtain ⟨hk, hn, ha, hb, htt, hks, hok⟩ := HN.out rfl
    obtain ⟨hn2, ha2, hb2, ht2, hk2⟩ := HSM.out rfl
    have HKS := Lib.hid (And.intro hks (fun (i : Nat) (h : i < ks.length) => And.intro (hok ks[i] (List.getElem_mem h)).1 (hk2 ks[i] (List.getElem_mem h))))
    rw [if_pos rfl] at HR
    obtain ⟨n, rfl⟩ : ∃ m : Nat, n = (m : Int) := ⟨n.toNat, by omega⟩
    obtain ⟨a, rfl⟩ : ∃ m : Nat, a = (m : Int) := ⟨a.toNat, by omega⟩
    obtain ⟨b, rfl⟩ : ∃ m : Nat, b = (m : Int) := ⟨b.toNat, by omega⟩
    obtain ⟨t, rfl⟩ : ∃ m : Nat, t = (m : Int) := ⟨t.toNat, by omega⟩
    have HDN := Lib.hid (fun w => digitsR_any n (by omega) w)
    have HDA := Lib.hid (fun w => digitsR_any a (by omega) w)
    have HDB := Lib.hid (fun w => digitsR_any b (by omega) w)
    have HDT := Lib.hid (fun w => digitsR_any t (by omega) w)
    simp only [List.flatMap_cons, List.flatMap_nil, Int.toNat_natCast, List.append_nil] at HR
    have HLN := Lib.hid (dec_len (m := n) (by omega))
    have HLA := Lib.hid (dec_len (m := a) (by omega))
    have HLB := Lib.hid (dec_len (m := b) (by omega))
    have HLT := Lib.hid (dec_len (m := t) (by omega))
    generalize Lib.decDigits n = dn at *
    generalize Lib.decDigits a = da at *
    generalize Lib.decDigits b = db at *
    generalize Lib.decDigits t = dt at *
    clear hn ha hb htt hks hok hn2 ha2 hb2 ht2 hk2
    go_wp2_with fail
    refine (HDN.out _).mono ?_
    rintro e w2 ⟨rfl, rfl⟩
    by_cases k1 : k = 1
    · rw [if_pos k1] at HR
      subst k1
      have s1 := fun w => add_str (P := Tryz.prog) (t := 9) [112, 105, 99, 107, 32] dn w (by have := HLN.out; simp; omega)
      have s2 := fun w => add_str (P := Tryz.prog) (t := 9) (112 :: 105 :: 99 :: 107 :: 32 :: dn) [32] w (by have := HLN.out; simp; omega)
      have s3 := fun w => add_str (P := Tryz.prog) (t := 9) (112 :: 105 :: 99 :: 107 :: 32 :: (dn ++ [32])) da w (by have := HLN.out; have := HLA.out; simp; omega)
      clear hk
      go_wp2_with fail
      refine (HDA.out _).mono ?_
      rintro e w2 ⟨rfl, rfl⟩
      go_wp2
      go_ret
      exact ⟨by rw [HR.out]; simp, HX1.out⟩
    rw [if_neg k1] at HR
    by_cases k2 : k = 2
    · rw [if_pos k2] at HR
      subst k2
      have s1 := fun w => add_str (P := Tryz.prog) (t := 9) [115, 116, 111, 112, 32] dn w (by have := HLN.out; simp; omega)
      clear hk k1
      go_wp2
      go_ret
      exact ⟨by rw [HR.out]; simp, HX1.out⟩
    rw [if_neg k2] at HR
    by_cases k4 : k = 4
    · rw [if_neg (show ¬ k = 3 by omega), if_pos k4] at HR
      subst k4
      have t1 := fun w => add_str (P := Tryz.prog) (t := 9) [102, 108, 105, 112, 32] da w (by have := HLA.out; simp; omega)
      have t2 := fun w => add_str (P := Tryz.prog) (t := 9) (102 :: 108 :: 105 :: 112 :: 32 :: da) [32] w (by have := HLA.out; simp; omega)
      have t3 := fun w => add_str (P := Tryz.prog) (t := 9) (102 :: 108 :: 105 :: 112 :: 32 :: (da ++ [32])) dn w (by have := HLA.out; have := HLN.out; simp; omega)
      have t4 := fun w => add_str (P := Tryz.prog) (t := 9) (102 :: 108 :: 105 :: 112 :: 32 :: (da ++ 32 :: dn)) [32] w (by have := HLA.out; have := HLN.out; simp; omega)
      have t5 := fun w => add_str (P := Tryz.prog) (t := 9) (102 :: 108 :: 105 :: 112 :: 32 :: (da ++ 32 :: (dn ++ [32]))) db w (by have := HLA.out; have := HLN.out; have := HLB.out; simp; omega)
      have t6 := fun w => add_str (P := Tryz.prog) (t := 9) (102 :: 108 :: 105 :: 112 :: 32 :: (da ++ 32 :: (dn ++ 32 :: db))) [32] w (by have := HLA.out; have := HLN.out; have := HLB.out; simp; omega)
      have t7 := fun w => add_str (P := Tryz.prog) (t := 9) (102 :: 108 :: 105 :: 112 :: 32 :: (da ++ 32 :: (dn ++ 32 :: (db ++ [32])))) dt w (by have := HLA.out; have := HLN.out; have := HLB.out; have := HLT.out; simp; omega)
      clear hk k1 k2
      go_upto_region 10 with fail
      refine wp_regionY [] [] Ext Ext (fun _ => True) (by kernel_rfl) (by rfl) (by rfl) (by kernel_rfl) (by kernel_rfl) (by kernel_rfl) (fun _ _ _ x y => x.trans y) Ext.refl (fun _ _ x => x) (Ext.refl _).drew (fun _ _ x _ => x) trivial ?_
      repeat (first | (refine wpY_move0 rfl rfl (by first | exact runs0 | exact runs1 rfl) Ext.refl rfl rfl rfl ?_; apply Exists.intro; refine ⟨?_, ?_⟩; · (go_simp; rfl)) | (refine wpY_move rfl rfl (by first | exact runs0 | exact runs1 rfl) Ext.refl rfl rfl rfl (fun _ _ _ h _ => h) ?_) | (refine wpY_val rfl rfl (by first | exact runs0 | exact runs1 rfl) Ext.refl rfl ?_; apply Exists.intro; refine ⟨?_, ?_⟩; · (intro a w' hR; intro h1; (first | (have e1 : _ = _ := h1) | skip); intro h2; (first | (have e2 : _ = _ := h2) | skip); go_simp; rfl)) | (refine wpY_val rfl rfl (by first | exact runs0 | exact runs1 rfl) Ext.refl rfl ?_; apply Exists.intro; refine ⟨?_, ?_⟩; · (intro a w' hR; intro h1; (first | (have e1 : _ = _ := h1) | skip); go_simp; rfl)) | (refine wpY_val rfl rfl (by first | exact runs0 | exact runs1 rfl) Ext.refl rfl ?_; apply Exists.intro; refine ⟨?_, ?_⟩; · (intro a w' hR; go_simp; rfl)) | (refine wpY_val rfl rfl (by first | exact runs0 | exact runs1 rfl) Ext.refl rfl ?_; apply Exists.intro; refine ⟨?_, ?_⟩; · (intro a w' hR; intro h1; (first | (have e1 : _ = _ := h1) | skip); intro h2; (first | (have e2 : _ = _ := h2) | skip); intro h3; (first | (have e3 : _ = _ := h3) | skip); go_simp; rfl)) | (refine wpY_skip rfl rfl (by first | exact .inl rfl | exact .inr rfl) ?_))
      refine wpY_val rfl rfl (by first | exact runs0 | exact runs1 rfl) Ext.refl rfl ?_; apply Exists.intro; refine ⟨?_, ?_⟩
      · intro a w' hR h1
        have e1 : _ = _ := h1
        have hl0 := hR.cell c0
        have hl1 := hR.cell c1
        have hl2 := hR.cell c2
        have hl3 := hR.cell c3
        have hl4 := hR.cell c4
        have hl5 := hR.cell c5
        go_simp
        rfl
      refine wpY_call (fun v _ => v = strV da) rfl rfl (by first | exact runs0 | exact runs1 rfl) rfl (by first | exact mono_eq | exact (fun _ _ _ h k => Rd.ext h k) | exact (fun _ _ _ h k => RB.ext h k) | exact (fun _ _ _ h k => OB.ext h k) | exact (fun _ _ _ h k => RB.extS h k) | exact (fun _ _ _ h k => Rd.ext h (GrownW.ext k)) | exact (fun _ _ _ h k => RP.ext h k) | exact (fun _ _ _ h k => OP.ext h k) | exact (fun _ _ _ h k => Rd.extV h k) | exact (fun _ _ _ h k => RB.extV h k) | exact (fun _ _ _ h k => E0.ext h k) | exact (fun _ _ _ h k => O0.ext h k) | exact (fun _ _ _ h k => RE.ext h k) | exact (fun _ _ _ h k => RE.extD h k) | exact (fun _ _ _ h _ => h) | exact (fun _ _ _ ⟨n, h1, h2⟩ k => ⟨n, h1, k.st _ _ h2⟩)) ?_ ?_
      · intro a w' hR h1 K hK
        have e1 : _ = _ := h1
        go_simp
        refine (HDA.out w').mono ?_
        rintro e w2 ⟨rfl, rfl⟩
        exact hK _ _ (Ext.refl _) rfl
      repeat (first | (refine wpY_move0 rfl rfl (by first | exact runs0 | exact runs1 rfl) Ext.refl rfl rfl rfl ?_; apply Exists.intro; refine ⟨?_, ?_⟩; · (go_simp; rfl)) | (refine wpY_move rfl rfl (by first | exact runs0 | exact runs1 rfl) Ext.refl rfl rfl rfl (fun _ _ _ h _ => h) ?_) | (refine wpY_val rfl rfl (by first | exact runs0 | exact runs1 rfl) Ext.refl rfl ?_; apply Exists.intro; refine ⟨?_, ?_⟩; · (intro a w' hR; intro h1; (first | (have e1 : _ = _ := h1) | skip); intro h2; (first | (have e2 : _ = _ := h2) | skip); go_simp; rfl)) | (refine wpY_val rfl rfl (by first | exact runs0 | exact runs1 rfl) Ext.refl rfl ?_; apply Exists.intro; refine ⟨?_, ?_⟩; · (intro a w' hR; intro h1; (first | (have e1 : _ = _ := h1) | skip); go_simp; rfl)) | (refine wpY_val rfl rfl (by first | exact runs0 | exact runs1 rfl) Ext.refl rfl ?_; apply Exists.intro; refine ⟨?_, ?_⟩; · (intro a w' hR; go_simp; rfl)) | (refine wpY_val rfl rfl (by first | exact runs0 | exact runs1 rfl) Ext.refl rfl ?_; apply Exists.intro; refine ⟨?_, ?_⟩; · (intro a w' hR; intro h1; (first | (have e1 : _ = _ := h1) | skip); intro h2; (first | (have e2 : _ = _ := h2) | skip); intro h3; (first | (have e3 : _ = _ := h3) | skip); go_simp; rfl)) | (refine wpY_skip rfl rfl (by first | exact .inl rfl | exact .inr rfl) ?_))
      refine wpY_val rfl rfl (by first | exact runs0 | exact runs1 rfl) Ext.refl rfl ?_; apply Exists.intro; refine ⟨?_, ?_⟩
      · intro a w' hR h1
        have e1 : _ = _ := h1
        have hl0 := hR.cell c0
        have hl1 := hR.cell c1
        have hl2 := hR.cell c2
        have hl3 := hR.cell c3
        have hl4 := hR.cell c4
        have hl5 := hR.cell c5
        go_simp
        rfl
      refine wpY_call (fun v _ => v = strV db) rfl rfl (by first | exact runs0 | exact runs1 rfl) rfl (by first | exact mono_eq | exact (fun _ _ _ h k => Rd.ext h k) | exact (fun _ _ _ h k => RB.ext h k) | exact (fun _ _ _ h k => OB.ext h k) | exact (fun _ _ _ h k => RB.extS h k) | exact (fun _ _ _ h k => Rd.ext h (GrownW.ext k)) | exact (fun _ _ _ h k => RP.ext h k) | exact (fun _ _ _ h k => OP.ext h k) | exact (fun _ _ _ h k => Rd.extV h k) | exact (fun _ _ _ h k => RB.extV h k) | exact (fun _ _ _ h k => E0.ext h k) | exact (fun _ _ _ h k => O0.ext h k) | exact (fun _ _ _ h k => RE.ext h k) | exact (fun _ _ _ h k => RE.extD h k) | exact (fun _ _ _ h _ => h) | exact (fun _ _ _ ⟨n, h1, h2⟩ k => ⟨n, h1, k.st _ _ h2⟩)) ?_ ?_
      · intro a w' hR h1 K hK
        have e1 : _ = _ := h1
        go_simp
        refine (HDB.out w').mono ?_
        rintro e w2 ⟨rfl, rfl⟩
        exact hK _ _ (Ext.refl _) rfl
      repeat (first | (refine wpY_move0 rfl rfl (by first | exact runs0 | exact runs1 rfl) Ext.refl rfl rfl rfl ?_; apply Exists.intro; refine ⟨?_, ?_⟩; · (go_simp; rfl)) | (refine wpY_move rfl rfl (by first | exact runs0 | exact runs1 rfl) Ext.refl rfl rfl rfl (fun _ _ _ h _ => h) ?_) | (refine wpY_val rfl rfl (by first | exact runs0 | exact runs1 rfl) Ext.refl rfl ?_; apply Exists.intro; refine ⟨?_, ?_⟩; · (intro a w' hR; intro h1; (first | (have e1 : _ = _ := h1) | skip); intro h2; (first | (have e2 : _ = _ := h2) | skip); go_simp; rfl)) | (refine wpY_val rfl rfl (by first | exact runs0 | exact runs1 rfl) Ext.refl rfl ?_; apply Exists.intro; refine ⟨?_, ?_⟩; · (intro a w' hR; intro h1; (first | (have e1 : _ = _ := h1) | skip); go_simp; rfl)) | (refine wpY_val rfl rfl (by first | exact runs0 | exact runs1 rfl) Ext.refl rfl ?_; apply Exists.intro; refine ⟨?_, ?_⟩; · (intro a w' hR; go_simp; rfl)) | (refine wpY_val rfl rfl (by first | exact runs0 | exact runs1 rfl) Ext.refl rfl ?_; apply Exists.intro; refine ⟨?_, ?_⟩; · (intro a w' hR; intro h1; (first | (have e1 : _ = _ := h1) | skip); intro h2; (first | (have e2 : _ = _ := h2) | skip); intro h3; (first | (have e3 : _ = _ := h3) | skip); go_simp; rfl)) | (refine wpY_skip rfl rfl (by first | exact .inl rfl | exact .inr rfl) ?_))
      refine wpY_val rfl rfl (by first | exact runs0 | exact runs1 rfl) Ext.refl rfl ?_; apply Exists.intro; refine ⟨?_, ?_⟩
      · intro a w' hR h1
        have e1 : _ = _ := h1
        have hl0 := hR.cell c0
        have hl1 := hR.cell c1
        have hl2 := hR.cell c2
        have hl3 := hR.cell c3
        have hl4 := hR.cell c4
        have hl5 := hR.cell c5
        go_simp
        rfl
      refine wpY_call (fun v _ => v = strV dt) rfl rfl (by first | exact runs0 | exact runs1 rfl) rfl (by first | exact mono_eq | exact (fun _ _ _ h k => Rd.ext h k) | exact (fun _ _ _ h k => RB.ext h k) | exact (fun _ _ _ h k => OB.ext h k) | exact (fun _ _ _ h k => RB.extS h k) | exact (fun _ _ _ h k => Rd.ext h (GrownW.ext k)) | exact (fun _ _ _ h k => RP.ext h k) | exact (fun _ _ _ h k => OP.ext h k) | exact (fun _ _ _ h k => Rd.extV h k) | exact (fun _ _ _ h k => RB.extV h k) | exact (fun _ _ _ h k => E0.ext h k) | exact (fun _ _ _ h k => O0.ext h k) | exact (fun _ _ _ h k => RE.ext h k) | exact (fun _ _ _ h k => RE.extD h k) | exact (fun _ _ _ h _ => h) | exact (fun _ _ _ ⟨n, h1, h2⟩ k => ⟨n, h1, k.st _ _ h2⟩)) ?_ ?_
      · intro a w' hR h1 K hK
        have e1 : _ = _ := h1
        go_simp
        refine (HDT.out w').mono ?_
        rintro e w2 ⟨rfl, rfl⟩
        exact hK _ _ (Ext.refl _) rfl
      repeat (first | (refine wpY_move0 rfl rfl (by first | exact runs0 | exact runs1 rfl) Ext.refl rfl rfl rfl ?_; apply Exists.intro; refine ⟨?_, ?_⟩; · (go_simp; rfl)) | (refine wpY_move rfl rfl (by first | exact runs0 | exact runs1 rfl) Ext.refl rfl rfl rfl (fun _ _ _ h _ => h) ?_) | (refine wpY_val rfl rfl (by first | exact runs0 | exact runs1 rfl) Ext.refl rfl ?_; apply Exists.intro; refine ⟨?_, ?_⟩; · (intro a w' hR; intro h1; (first | (have e1 : _ = _ := h1) | skip); intro h2; (first | (have e2 : _ = _ := h2) | skip); go_simp; rfl)) | (refine wpY_val rfl rfl (by first | exact runs0 | exact runs1 rfl) Ext.refl rfl ?_; apply Exists.intro; refine ⟨?_, ?_⟩; · (intro a w' hR; intro h1; (first | (have e1 : _ = _ := h1) | skip); go_simp; rfl)) | (refine wpY_val rfl rfl (by first | exact runs0 | exact runs1 rfl) Ext.refl rfl ?_; apply Exists.intro; refine ⟨?_, ?_⟩; · (intro a w' hR; go_simp; rfl)) | (refine wpY_val rfl rfl (by first | exact runs0 | exact runs1 rfl) Ext.refl rfl ?_; apply Exists.intro; refine ⟨?_, ?_⟩; · (intro a w' hR; intro h1; (first | (have e1 : _ = _ := h1) | skip); intro h2; (first | (have e2 : _ = _ := h2) | skip); intro h3; (first | (have e3 : _ = _ := h3) | skip); go_simp; rfl)) | (refine wpY_skip rfl rfl (by first | exact .inl rfl | exact .inr rfl) ?_))
      refine wpY_done ?_
      intro wz hx hS
      iterate 18 (rintro _ rfl)
      dsimp only [FinV]
      go_simp
      go_wp2
      go_ret
      exact ⟨by rw [HR.out]; simp, HX1.out.trans hx⟩
    rw [if_neg k4] at HR
    by_cases k3 : k = 3
    · rw [if_pos k3] at HR
      subst k3
      clear hk k1 k2 k4
      go_wp2
      clear c0 c1 c2 c3 c4 c5
      go_loopw [4, 5] (fun ov iv wr => ∃ i : Nat, i ≤ ks.length ∧ iv = .int .i64 (i : Int) ∧ ov = strV ([99, 114, 97, 115, 104] ++ (ks.take i).flatMap fun x => 32 :: Lib.decDigits x.toNat) ∧ wr = w1) (fun _ iv _ => ks.length - (intOf iv).toNat)
      case atStart => exact ⟨0, Nat.zero_le _, rfl, by simp, rfl⟩
      case round =>
        obtain ⟨i, hi, rfl, rfl, hwr⟩ := hrel
        subst hwr
        rename World => wr
        obtain ⟨c0, c1, c2, c3, c4, c5⟩ := HB1.out.at_
        have hi2 : i ≤ 256 := by have := HKS.out.1; omega
        by_cases hlt : i < ks.length
        · have q1 : (i : Int) < (ks.length : Int) := by omega
          have q0 : 0 ≤ (i : Int) := by omega
          have q1n : i < ks.length := hlt
          have HI := Lib.hid hlt
          obtain ⟨bI, oI, rfl, z0⟩ := ri1 HU1.out hlt
          have HK := Lib.hid (HKS.out.2 i hlt)
          have HS := Lib.hid (show (([99, 114, 97, 115, 104] : List UInt8) ++ (ks.take (i + 1)).flatMap fun (x : Int) => 32 :: Lib.decDigits x.toNat) = ([99, 114, 97, 115, 104] ++ (ks.take i).flatMap fun x => 32 :: Lib.decDigits x.toNat) ++ (32 :: Lib.decDigits ks[i].toNat) from by
            rw [List.take_succ_eq_append_getElem hlt, List.flatMap_append, List.append_assoc]
            simp
            try rfl)
          have HLL := Lib.hid (show (([99, 114, 97, 115, 104] : List UInt8) ++ (ks.take i).flatMap fun (x : Int) => 32 :: Lib.decDigits x.toNat).length ≤ 100000 from by
            have h1 := flat_le (fun (x : Int) => 32 :: Lib.decDigits x.toNat) 21 (ks.take i) (fun x hx => by
              obtain ⟨j, hj, rfl⟩ := List.getElem_of_mem (List.mem_of_mem_take hx)
              have h := HKS.out.2 j hj
              have := dec_len (m := ks[j].toNat) (by omega)
              simp; omega)
            have h2 : (ks.take i).length * 21 ≤ 256 * 21 := Nat.mul_le_mul_right _ (by rw [List.length_take]; omega)
            rw [List.length_append]; simp only [List.length_cons, List.length_nil]; omega)
          generalize ks[i] = x at *
          obtain ⟨y, hy⟩ : ∃ y : Nat, x = (y : Int) := ⟨x.toNat, by have := HK.out.1; omega⟩
          subst hy
          rw [show ((y : Int)).toNat = y from rfl] at HS
          generalize ([99, 114, 97, 115, 104] ++ (ks.take i).flatMap fun x => 32 :: Lib.decDigits x.toNat) = lk at *
          have HDY := Lib.hid (fun w => digitsR_any y (by have := HK.out.2; omega) w)
          have HDL := Lib.hid (dec_len (m := y) (by have := HK.out.2; omega))
          generalize Lib.decDigits y = dy at *
          have s1 := fun w => add_str (P := Tryz.prog) (t := 9) lk [32] w (by have := HLL.out; simp; omega)
          have s2 := fun w => add_str (P := Tryz.prog) (t := 9) (lk ++ [32]) dy w (by have := HLL.out; have := HDL.out; simp; omega)
          clear hlt hi
          go_wp2_with fail
          refine (HDY.out _).mono ?_
          rintro e w2 ⟨rfl, rfl⟩
          go_wp2
          exact ⟨⟨i + 1, HI.out, by go_num, by first | (rw [HS.out]; done) | (rw [HS.out]; simp; done), by first | trivial | rfl⟩, by have := HI.out; simp [intOf]; omega⟩
        · obtain rfl : i = ks.length := by omega
          have q1 : ¬ (ks.length : Int) < (ks.length : Int) := by omega
          rw [List.take_length]
          clear hlt hi
          go_wp2
          go_ret
          exact ⟨by first | (rw [HR.out]; done) | (rw [HR.out]; simp; done), HX1.out⟩
    rw [if_neg k3] at HR
    have k5 : k = 5 := by omega
    subst k5
    have s1 := fun w => add_str (P := Tryz.prog) (t := 9) [114, 117, 110, 32] dn w (by have := HLN.out; simp; omega)
    have s2 := fun w => add_str (P := Tryz.prog) (t := 9) (114 :: 117 :: 110 :: 32 :: dn) [32] w (by have := HLN.out; simp; omega)
    have s3 := fun w => add_str (P := Tryz.prog) (t := 9) (114 :: 117 :: 110 :: 32 :: (dn ++ [32])) da w (by have := HLN.out; have := HLA.out; simp; omega)
    clear hk
    go_wp2_with fail
    refine (HDA.out _).mono ?_
    rintro e w2 ⟨rfl, rfl⟩
    go_wp2
    go_ret
    exact ⟨by rw [HR.out]; simp, HX1.out⟩
end Go.Proofs.YtpmpjjhchkoboaaGreatDoor
