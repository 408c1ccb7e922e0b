/-
  Layer 7: EntryPacks.
-/
import Derived.Test.YtacpomonidmjaaaEntLives
namespace Go.Proofs.Ytacpomonidmjaaa
open Go.RowKit Go.Ox Go.Shelf
set_option linter.unusedVariables false
set_option linter.unusedSimpArgs false
theorem bs_neL (l : List UInt8) : ((⟨l.toArray⟩ : ByteArray) != ⟨l.toArray⟩) = false := by rw [bne, str_eq]; simp
theorem flat_snocE (ls : List (List Ent.E)) {k : Nat} (h : k < ls.length) : (ls.take (k + 1)).flatten = (ls.take k).flatten ++ ls[k] := by
  rw [List.take_succ_eq_append_getElem h, List.flatten_append, List.flatten_cons, List.flatten_nil, List.append_nil]
attribute [local irreducible] RE RB RP OP OE

set_option maxRecDepth 100000 in
set_option maxHeartbeats 8000000 in
theorem entryPacks_row (v : Value) (l : List Ent.E) (w : World) (hv : RE w v l) :
    Calls Try.prog 4 #[v] w fun e w' => e = .returned (.bool true) ∧ Ext w w' := by
  have hm9 := (RE.rd hv).len_le
  unfold maxLen at hm9
  have HV := Lib.hid hv
  obtain ⟨A, c, rfl⟩ := hv.form
  clear hv
  by_cases hA : 32768 < l.length
  · have g : (1000 : Int) < (l.length : Int) := by omega
    have g2 : ¬ (l.length : Int) ≤ 16384 := by omega
    have g3 : (32768 : Int) < (l.length : Int) := by omega
    go_enter Try.func4, Try.ntmps4
    go_wp2_with fail
    refine (lives_any _).mono ?_
    rintro e w1 ⟨rfl, he1⟩
    go_wp2
    go_ret
    exact ⟨rfl, he1⟩
  have g3 : ¬ (32768 : Int) < (l.length : Int) := by omega
  by_cases hmay : Ent.may l = 0
  · obtain ⟨hok, hlen⟩ := Ent.may_ok hmay
    by_cases hB : 1000 < l.length
    · have g : (1000 : Int) < (l.length : Int) := by omega
      have g2 : (l.length : Int) ≤ 16384 := by omega
      go_enter Try.func4, Try.ntmps4
      go_wp2_with fail
      refine (lives_any _).mono ?_
      rintro e w1 ⟨rfl, he1⟩
      go_wp2
      go_ret
      exact ⟨rfl, he1⟩
    have g : ¬ (1000 : Int) < (l.length : Int) := by omega
    have HPK := Lib.hid (fun w h => pack_ok (.slice A l.length c) l w h hmay)
    have HRP := Lib.hid (fun w h => rpack_any (.slice A l.length c) l w h hmay)
    have HM := Lib.hid (fun w h => rmayE_any (.slice A l.length c) l w h (by omega))
    rw [hmay] at HM
    obtain ⟨ls, s1, s2, s3, s4⟩ := Ent.seg_any l hok
    rw [s2] at HPK HRP
    have HUN := Lib.hid (show ∀ (k : Nat) (hk : k < ls.length) (v : Value) (w : World), RB w v (ls[k].flatMap Ent.entL) → Calls Try.prog 23 #[v] w fun e w' => ∃ u, e = .returned (.tuple #[u, .int .i64 0]) ∧ RE w' u ls[k] ∧ Ext w w' from fun k hk v w h => by
      have h1 := un_flat (l := ls[k]) fun x hx => hok x (by rw [← s1]; exact List.mem_flatten.2 ⟨_, List.getElem_mem hk, hx⟩)
      have h2 := s4 _ (List.getElem_mem hk)
      have h3 := unp_any v _ w h (by omega)
      rw [(unL_some (by omega) h1).1, (unL_some (by omega) h1).2] at h3
      exact h3)
    have HNE := Lib.hid (show ∀ (k : Nat) (hk : k < ls.length), 0 < ls[k].length from fun k hk => List.length_pos_iff.2 (s3 _ (List.getElem_mem hk)))
    have HFL := Lib.hid s1
    have HFB := Lib.hid (show ∀ k, (ls.take k).flatten.length ≤ 1000 from fun k => by
      have h1 : (ls.take k ++ ls.drop k).flatten.length = l.length := by rw [List.take_append_drop, s1]
      rw [List.flatten_append, List.length_append] at h1
      omega)
    have HPL := Lib.hid (show ls.length ≤ 1000 by
      have h1 := Ent.pkF_len l
      rw [s2, List.length_map] at h1
      omega)
    clear s1 s2 s3 s4 hok hlen hmay hA hB
    obtain ⟨PK, hPK⟩ : ∃ PK, ls.map (fun s => s.flatMap Ent.entL) = PK := ⟨_, rfl⟩
    rw [hPK] at HPK HRP
    have HPN := Lib.hid (show PK.length = ls.length by rw [← hPK, List.length_map])
    have HPG := Lib.hid (show ∀ (k : Nat) (hk : k < ls.length) (hk2 : k < PK.length), PK[k] = ls[k].flatMap Ent.entL from fun k hk hk2 => by subst hPK; simp)
    clear hPK
    go_enter Try.func4, Try.ntmps4
    go_wp2_with fail
    refine (HPK.out _ HV.out).mono ?_
    rintro e w1 ⟨p, rfl, hp, he1⟩
    have HP1 := Lib.hid hp
    obtain ⟨AP, cP, hpf⟩ := hp.form
    rw [HPN.out] at hpf
    subst hpf
    have HX1 := Lib.hid he1
    clear hp he1
    go_wp2_with fail
    refine (HM.out _ (HV.out.ext HX1.out)).mono ?_
    rintro e w2 ⟨rfl, he2⟩
    have HP2 := Lib.hid (HP1.out.ext (fun u x q => q.ext he2) he2)
    have HX2 := Lib.hid (HX1.out.trans he2)
    clear he2 HP1 HX1
    go_wp2_with fail
    refine (lives_any _).mono ?_
    rintro e w3 ⟨rfl, he3⟩
    have HP3 := Lib.hid (HP2.out.ext (fun u x q => q.ext he3) he3)
    have HX3 := Lib.hid (HX2.out.trans he3)
    clear he3 HP2 HX2
    go_wp2_with fail
    refine (HRP.out _ (HV.out.ext HX3.out)).mono ?_
    rintro e w4 ⟨q, rfl, hq, he4⟩
    have HQ4 := Lib.hid hq
    obtain ⟨AQ, cQ, hqf⟩ := hq.form
    rw [HPN.out] at hqf
    subst hqf
    have HP4 := Lib.hid (HP3.out.ext (fun u x q => q.ext he4) he4)
    have HX4 := Lib.hid (HX3.out.trans he4)
    have hnn : ((ls.length : Int) != (ls.length : Int)) = false := by simp
    clear he4 hq HP3 HX3 HPK HRP HM
    go_wp2
    go_loopw [7, 8] (fun o iv wr => ∃ k : Nat, k ≤ ls.length ∧ iv = .int .i64 (k : Int) ∧ OE 28 w4.heap.size wr o (ls.take k).flatten ∧ Ext w4 wr) (fun _ iv _ => ls.length - (intOf iv).toNat)
    case atStart => exact ⟨0, Nat.zero_le _, rfl, OE.nilS _ _ _, Ext.refl _⟩
    case round =>
      obtain ⟨k, hk, rfl, ho, hext⟩ := hrel
      rename World => wA
      have HO := Lib.hid ho
      have HE := Lib.hid hext
      obtain ⟨AO, cO, rfl⟩ := ho.re.form
      have HB := Lib.hid (HFB.out k)
      by_cases hlt : k < ls.length
      · have g1 : (k : Int) < (ls.length : Int) := by omega
        have g1n : k < ls.length := hlt
        have g0 : 0 ≤ (k : Int) := by omega
        have hkb : k ≤ 1000000 := by have := HPL.out; omega
        have HLT := Lib.hid hlt
        have HSN := Lib.hid (flat_snocE ls hlt)
        have HB2 := Lib.hid (HFB.out (k + 1))
        have hk9 : k < PK.length := by rw [HPN.out]; exact hlt
        obtain ⟨bP, oP, up, hpe, d0, hup⟩ := (HP4.out.ext (fun u x q => q.ext hext) hext).at_ hk9
        obtain ⟨bQ, oQ, uq, hqe, f0, huq⟩ := (HQ4.out.ext (fun u x q => q.ext hext) hext).at_ hk9
        subst hpe hqe
        rw [HPG.out k hlt hk9] at hup huq
        have HUP := Lib.hid hup
        have HUQ := Lib.hid huq
        have HU := Lib.hid (HUN.out k hlt)
        have hne := HNE.out k hlt
        have hbs := bs_neL (ls[k].flatMap Ent.entL)
        rw [HSN.out, List.length_append] at HB2
        generalize ls[k] = x at *
        generalize x.flatMap Ent.entL = bx at *
        generalize (ls.take k).flatten = out at *
        have hz : ((x.length : Int) == 0) = false := by rw [beq_eq_false_iff_ne]; omega
        clear hext hk hlt ho hup huq hk9
        go_wp2_with fail
        refine (HU.out _ _ HUP.out).mono ?_
        rintro e w5 ⟨u, rfl, hu, he5⟩
        have HU5 := Lib.hid hu
        obtain ⟨AU, cU, rfl⟩ := hu.form
        have HX5 := Lib.hid (HE.out.trans he5)
        have HUP5 := Lib.hid (HUP.out.ext he5)
        have HUQ5 := Lib.hid (HUQ.out.ext he5)
        have HO5 := Lib.hid (HO.out.ext he5)
        have d0 := he5.cell d0
        have f0 := he5.cell f0
        clear hu he5 HUP HUQ HO HE
        go_wp2
        refine wp_regionY [] [] Ext Ext (fun _ => True) (by kernel_rfl) (by rfl) (by rfl) (by kernel_rfl) (by kernel_rfl) (by kernel_rfl) (fun _ _ _ x y => x.trans y) Ext.refl (fun _ _ x => x) (Ext.refl _).drew (fun _ _ x _ => x) trivial ?_
        repeat (first | (refine wpY_move0 rfl rfl (by first | exact runs0 | exact runs1 rfl) Ext.refl rfl rfl rfl ?_; apply Exists.intro; refine ⟨?_, ?_⟩; · (go_simp; rfl)) | (refine wpY_move rfl rfl (by first | exact runs0 | exact runs1 rfl) Ext.refl rfl rfl rfl (fun _ _ _ h _ => h) ?_) | (refine wpY_val rfl rfl (by first | exact runs0 | exact runs1 rfl) Ext.refl rfl ?_; apply Exists.intro; refine ⟨?_, ?_⟩; · (intro a w' hR; intro h1; (first | (have e1 : _ = _ := h1) | skip); intro h2; (first | (have e2 : _ = _ := h2) | skip); go_simp; rfl)) | (refine wpY_val rfl rfl (by first | exact runs0 | exact runs1 rfl) Ext.refl rfl ?_; apply Exists.intro; refine ⟨?_, ?_⟩; · (intro a w' hR; intro h1; (first | (have e1 : _ = _ := h1) | skip); go_simp; rfl)) | (refine wpY_val rfl rfl (by first | exact runs0 | exact runs1 rfl) Ext.refl rfl ?_; apply Exists.intro; refine ⟨?_, ?_⟩; · (intro a w' hR; go_simp; rfl)) | (refine wpY_val rfl rfl (by first | exact runs0 | exact runs1 rfl) Ext.refl rfl ?_; apply Exists.intro; refine ⟨?_, ?_⟩; · (intro a w' hR; intro h1; (first | (have e1 : _ = _ := h1) | skip); intro h2; (first | (have e2 : _ = _ := h2) | skip); intro h3; (first | (have e3 : _ = _ := h3) | skip); go_simp; rfl)) | (refine wpY_skip rfl rfl (by first | exact .inl rfl | exact .inr rfl) ?_))
        refine wpY_val rfl rfl (by first | exact runs0 | exact runs1 rfl) Ext.refl rfl ?_; apply Exists.intro; refine ⟨?_, ?_⟩
        · intro a w' hR h1
          have e1 : _ = _ := h1
          have hl0 := hR.cell d0
          go_simp
          rfl
        refine wpY_val rfl rfl (by first | exact runs0 | exact runs1 rfl) Ext.refl rfl ?_; apply Exists.intro; refine ⟨?_, ?_⟩
        · intro a w' hR h1
          have e1 : _ = _ := h1
          have hs := strB (HUP5.out.ext hR)
          go_simp
          rfl
        repeat (first | (refine wpY_move0 rfl rfl (by first | exact runs0 | exact runs1 rfl) Ext.refl rfl rfl rfl ?_; apply Exists.intro; refine ⟨?_, ?_⟩; · (go_simp; rfl)) | (refine wpY_move rfl rfl (by first | exact runs0 | exact runs1 rfl) Ext.refl rfl rfl rfl (fun _ _ _ h _ => h) ?_) | (refine wpY_val rfl rfl (by first | exact runs0 | exact runs1 rfl) Ext.refl rfl ?_; apply Exists.intro; refine ⟨?_, ?_⟩; · (intro a w' hR; intro h1; (first | (have e1 : _ = _ := h1) | skip); intro h2; (first | (have e2 : _ = _ := h2) | skip); go_simp; rfl)) | (refine wpY_val rfl rfl (by first | exact runs0 | exact runs1 rfl) Ext.refl rfl ?_; apply Exists.intro; refine ⟨?_, ?_⟩; · (intro a w' hR; intro h1; (first | (have e1 : _ = _ := h1) | skip); go_simp; rfl)) | (refine wpY_val rfl rfl (by first | exact runs0 | exact runs1 rfl) Ext.refl rfl ?_; apply Exists.intro; refine ⟨?_, ?_⟩; · (intro a w' hR; go_simp; rfl)) | (refine wpY_val rfl rfl (by first | exact runs0 | exact runs1 rfl) Ext.refl rfl ?_; apply Exists.intro; refine ⟨?_, ?_⟩; · (intro a w' hR; intro h1; (first | (have e1 : _ = _ := h1) | skip); intro h2; (first | (have e2 : _ = _ := h2) | skip); intro h3; (first | (have e3 : _ = _ := h3) | skip); go_simp; rfl)) | (refine wpY_skip rfl rfl (by first | exact .inl rfl | exact .inr rfl) ?_))
        refine wpY_val rfl rfl (by first | exact runs0 | exact runs1 rfl) Ext.refl rfl ?_; apply Exists.intro; refine ⟨?_, ?_⟩
        · intro a w' hR h1
          have e1 : _ = _ := h1
          have hl0 := hR.cell f0
          go_simp
          rfl
        refine wpY_val rfl rfl (by first | exact runs0 | exact runs1 rfl) Ext.refl rfl ?_; apply Exists.intro; refine ⟨?_, ?_⟩
        · intro a w' hR h1
          have e1 : _ = _ := h1
          have hs := strB (HUQ5.out.ext hR)
          go_simp
          rfl
        repeat (first | (refine wpY_move0 rfl rfl (by first | exact runs0 | exact runs1 rfl) Ext.refl rfl rfl rfl ?_; apply Exists.intro; refine ⟨?_, ?_⟩; · (go_simp; rfl)) | (refine wpY_move rfl rfl (by first | exact runs0 | exact runs1 rfl) Ext.refl rfl rfl rfl (fun _ _ _ h _ => h) ?_) | (refine wpY_val rfl rfl (by first | exact runs0 | exact runs1 rfl) Ext.refl rfl ?_; apply Exists.intro; refine ⟨?_, ?_⟩; · (intro a w' hR; intro h1; (first | (have e1 : _ = _ := h1) | skip); intro h2; (first | (have e2 : _ = _ := h2) | skip); go_simp; rfl)) | (refine wpY_val rfl rfl (by first | exact runs0 | exact runs1 rfl) Ext.refl rfl ?_; apply Exists.intro; refine ⟨?_, ?_⟩; · (intro a w' hR; intro h1; (first | (have e1 : _ = _ := h1) | skip); go_simp; rfl)) | (refine wpY_val rfl rfl (by first | exact runs0 | exact runs1 rfl) Ext.refl rfl ?_; apply Exists.intro; refine ⟨?_, ?_⟩; · (intro a w' hR; go_simp; rfl)) | (refine wpY_val rfl rfl (by first | exact runs0 | exact runs1 rfl) Ext.refl rfl ?_; apply Exists.intro; refine ⟨?_, ?_⟩; · (intro a w' hR; intro h1; (first | (have e1 : _ = _ := h1) | skip); intro h2; (first | (have e2 : _ = _ := h2) | skip); intro h3; (first | (have e3 : _ = _ := h3) | skip); go_simp; rfl)) | (refine wpY_skip rfl rfl (by first | exact .inl rfl | exact .inr rfl) ?_))
        refine wpY_done ?_
        intro w6 hx6 hS
        iterate 20 (rintro _ rfl)
        dsimp only [FinV]
        go_simp
        have hx6 : Ext w5 w6 := hx6
        have HX6 := Lib.hid (HX5.out.trans hx6)
        have HO6 := Lib.hid (HO5.out.ext hx6)
        have HU6 := Lib.hid (HU5.out.ext hx6)
        clear hx6 hS
        go_wp2_with (at_builtin; refine wpList_appE rfl elemE _ _ _ rfl w4.heap.size _ _ out x rfl HO6.out rfl HU6.out (by have := HB2.out; omega) (by have := HB2.out; unfold maxLen; omega) HX6.out.size ?_; intro v7 w7 ho7 hg7 hat7)
        exact ⟨⟨k + 1, HLT.out, by go_num, by rw [HSN.out]; exact ho7, HX6.out.grown hat7 fun g hg => (HO6.out.own.lt g hg).1⟩, by have := HLT.out; simp [intOf]; omega⟩
      · have hk2 : k = ls.length := by omega
        subst hk2
        have g1 : ¬ (ls.length : Int) < (ls.length : Int) := by omega
        rw [List.take_length, HFL.out] at HO ⊢
        clear hext hlt ho hk
        go_wp2_with fail
        refine (sameE_is _ _ _ _ HO.out.re (HV.out.ext (HX4.out.trans HE.out))).mono ?_
        rintro e w6 ⟨rfl, he6⟩
        go_wp2
        go_ret
        exact ⟨rfl, (HX4.out.trans HE.out).trans he6⟩
  · have h2 : (Ent.may l != 0) = true := by simpa using hmay
    have h3 : (Ent.may l != Ent.may l) = false := by simp
    have HPK := Lib.hid (fun w h => pack_err (.slice A l.length c) l w h (by omega) hmay)
    have HM := Lib.hid (fun w h => rmayE_any (.slice A l.length c) l w h (by omega))
    generalize Ent.may l = me at *
    clear hmay
    by_cases hB : 1000 < l.length
    · have g : (1000 : Int) < (l.length : Int) := by omega
      by_cases hC : l.length ≤ 16384
      · have g2 : (l.length : Int) ≤ 16384 := by omega
        go_enter Try.func4, Try.ntmps4
        go_wp2_with fail
        refine (lives_any _).mono ?_
        rintro e w1 ⟨rfl, he1⟩
        go_wp2
        go_ret
        exact ⟨rfl, he1⟩
      · have g2 : ¬ (l.length : Int) ≤ 16384 := by omega
        go_enter Try.func4, Try.ntmps4
        go_wp2_with fail
        refine (HPK.out _ HV.out).mono ?_
        rintro e w1 ⟨rfl, he1⟩
        go_wp2_with fail
        refine (HM.out _ (HV.out.ext he1)).mono ?_
        rintro e w2 ⟨rfl, he2⟩
        go_wp2_with fail
        refine (lives_any _).mono ?_
        rintro e w3 ⟨rfl, he3⟩
        go_wp2
        go_ret
        exact ⟨rfl, (he1.trans he2).trans he3⟩
    · have g : ¬ (1000 : Int) < (l.length : Int) := by omega
      go_enter Try.func4, Try.ntmps4
      go_wp2_with fail
      refine (HPK.out _ HV.out).mono ?_
      rintro e w1 ⟨rfl, he1⟩
      go_wp2_with fail
      refine (HM.out _ (HV.out.ext he1)).mono ?_
      rintro e w2 ⟨rfl, he2⟩
      go_wp2_with fail
      refine (lives_any _).mono ?_
      rintro e w3 ⟨rfl, he3⟩
      go_wp2
      go_ret
      exact ⟨rfl, (he1.trans he2).trans he3⟩
theorem entryPacks_law (w : World) (v : Value) (l : List Ent.E) (hv : RE w v l) :
    Calls Try.prog 4 #[v] w fun e w' => e = .returned (.bool true) ∧ Ext w w' := entryPacks_row v l w hv
end Go.Proofs.Ytacpomonidmjaaa
