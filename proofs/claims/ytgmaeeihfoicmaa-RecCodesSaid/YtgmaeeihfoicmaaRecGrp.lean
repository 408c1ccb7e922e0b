/-
  rec.Groups: a bag by keys.
-/
import Derived.Test.YtgmaeeihfoicmaaRecAll
import Derived.Test.YtgmaeeihfoicmaaRecDel
import Derived.Test.YtgmaeeihfoicmaaRecMath
import Derived.Test.YtgmaeeihfoicmaaRecRef
namespace Go.Proofs.Ytgmaeeihfoicmaa
open Go.RowKit Go.Ox Go.Shelf
attribute [local irreducible] OP RP
set_option linter.unusedVariables false
set_option linter.unusedSimpArgs false

theorem elemSS : Elem Try.prog 58 24 (.slice none 0 0) 1 24 := Elem.mk' Try.underlying58 (by kernel_rfl) rfl (by omega)

set_option maxRecDepth 100000 in
set_option maxHeartbeats 1000000 in
theorem groups1_any (g : Nat) (A : Option Addr) (c : Nat) (D : List Rec.R) (hD : 0 < D.length) (x : Rec.R) (w : World) (hb : Blk w g 24 #[.slice A D.length c]) (hr : RP w (.slice A D.length c) D) :
    Calls Try.prog 61 #[mV x, .pointer (some ⟨g, 0, none⟩)] w fun e w' => e = .returned (.bool (decide (x.1 ≠ D[0].1))) ∧ Ext w w' := by
  obtain ⟨x1, x2⟩ := x
  have hxl : Ext w (w.alloc (.cells #[.int .i64 x1, .int .i64 x2] 23)) := (Ext.refl _).alloc _
  have HX := Lib.hid hxl
  obtain ⟨bA, oA, rfl, ya, yb⟩ := (hr.ext hxl).at_ (k := 0) hD
  have ya : (w.alloc (.cells #[.int .i64 x1, .int .i64 x2] 23)).cell? ⟨bA, oA, none⟩ = some (.int .i64 D[0].1) := by simpa using ya
  have g0 : (0 : Int) < (D.length : Int) := by omega
  have c0 : (w.alloc (.cells #[.int .i64 x1, .int .i64 x2] 23)).cell? ⟨g, 0, none⟩ = some (.slice (some ⟨bA, oA, none⟩) D.length c) := (hb.ext hxl).cell 0
  have d0 : (w.alloc (.cells #[.int .i64 x1, .int .i64 x2] 23)).cell? ⟨w.heap.size, 0, none⟩ = some (.int .i64 x1) := (Blk.new w 23 #[.int .i64 x1, .int .i64 x2]).cell 0
  have hne : (x1 != D[0].1) = decide (x1 ≠ D[0].1) := by by_cases h : x1 = D[0].1 <;> simp [h]
  have HNE := Lib.hid hne
  generalize D[0].1 = y1 at *
  clear hr hb hxl yb hne
  go_enter Try.func61, Try.ntmps61
  go_wp2
  generalize w.alloc (.cells #[.int .i64 x1, .int .i64 x2] 23) = w0 at *
  refine wp_regionY [] [] Ext Ext (fun _ => True) (by kernel_rfl) (by rfl) (by rfl) (by kernel_rfl) (by kernel_rfl) (by kernel_rfl) (fun _ _ _ x y => x.trans y) Ext.refl (fun _ _ x => x) (Ext.refl _).drew (fun _ _ x _ => x) trivial ?_
  repeat (first | (refine wpY_move0 rfl rfl (by first | exact runs0 | exact runs1 rfl) Ext.refl rfl rfl rfl ?_; apply Exists.intro; refine ⟨?_, ?_⟩; · (go_simp; rfl)) | (refine wpY_move rfl rfl (by first | exact runs0 | exact runs1 rfl) Ext.refl rfl rfl rfl (fun _ _ _ h _ => h) ?_) | (refine wpY_val rfl rfl (by first | exact runs0 | exact runs1 rfl) Ext.refl rfl ?_; apply Exists.intro; refine ⟨?_, ?_⟩; · (intro a w' hR; intro h1; (first | (have e1 : _ = _ := h1) | skip); intro h2; (first | (have e2 : _ = _ := h2) | skip); go_simp; rfl)) | (refine wpY_val rfl rfl (by first | exact runs0 | exact runs1 rfl) Ext.refl rfl ?_; apply Exists.intro; refine ⟨?_, ?_⟩; · (intro a w' hR; intro h1; (first | (have e1 : _ = _ := h1) | skip); go_simp; rfl)) | (refine wpY_val rfl rfl (by first | exact runs0 | exact runs1 rfl) Ext.refl rfl ?_; apply Exists.intro; refine ⟨?_, ?_⟩; · (intro a w' hR; go_simp; rfl)) | (refine wpY_val rfl rfl (by first | exact runs0 | exact runs1 rfl) Ext.refl rfl ?_; apply Exists.intro; refine ⟨?_, ?_⟩; · (intro a w' hR; intro h1; (first | (have e1 : _ = _ := h1) | skip); intro h2; (first | (have e2 : _ = _ := h2) | skip); intro h3; (first | (have e3 : _ = _ := h3) | skip); go_simp; rfl)) | (refine wpY_skip rfl rfl (by first | exact .inl rfl | exact .inr rfl) ?_))
  refine wpY_val rfl rfl (by first | exact runs0 | exact runs1 rfl) Ext.refl rfl ?_; apply Exists.intro; refine ⟨?_, ?_⟩
  · intro a w' hR h1
    have e1 : _ = _ := h1
    have hl := hR.cell d0
    go_simp
    rfl
  refine wpY_val rfl rfl (by first | exact runs0 | exact runs1 rfl) Ext.refl rfl ?_; apply Exists.intro; refine ⟨?_, ?_⟩
  · intro a w' hR h1
    have e1 : _ = _ := h1
    have hl := hR.cell c0
    go_simp
    rfl
  repeat (first | (refine wpY_move0 rfl rfl (by first | exact runs0 | exact runs1 rfl) Ext.refl rfl rfl rfl ?_; apply Exists.intro; refine ⟨?_, ?_⟩; · (go_simp; rfl)) | (refine wpY_move rfl rfl (by first | exact runs0 | exact runs1 rfl) Ext.refl rfl rfl rfl (fun _ _ _ h _ => h) ?_) | (refine wpY_val rfl rfl (by first | exact runs0 | exact runs1 rfl) Ext.refl rfl ?_; apply Exists.intro; refine ⟨?_, ?_⟩; · (intro a w' hR; intro h1; (first | (have e1 : _ = _ := h1) | skip); intro h2; (first | (have e2 : _ = _ := h2) | skip); go_simp; rfl)) | (refine wpY_val rfl rfl (by first | exact runs0 | exact runs1 rfl) Ext.refl rfl ?_; apply Exists.intro; refine ⟨?_, ?_⟩; · (intro a w' hR; intro h1; (first | (have e1 : _ = _ := h1) | skip); go_simp; rfl)) | (refine wpY_val rfl rfl (by first | exact runs0 | exact runs1 rfl) Ext.refl rfl ?_; apply Exists.intro; refine ⟨?_, ?_⟩; · (intro a w' hR; go_simp; rfl)) | (refine wpY_val rfl rfl (by first | exact runs0 | exact runs1 rfl) Ext.refl rfl ?_; apply Exists.intro; refine ⟨?_, ?_⟩; · (intro a w' hR; intro h1; (first | (have e1 : _ = _ := h1) | skip); intro h2; (first | (have e2 : _ = _ := h2) | skip); intro h3; (first | (have e3 : _ = _ := h3) | skip); go_simp; rfl)) | (refine wpY_skip rfl rfl (by first | exact .inl rfl | exact .inr rfl) ?_))
  refine wpY_val rfl rfl (by first | exact runs0 | exact runs1 rfl) Ext.refl rfl ?_; apply Exists.intro; refine ⟨?_, ?_⟩
  · intro a w' hR h1
    have e1 : _ = _ := h1
    have hl := hR.cell ya
    go_simp
    rfl
  repeat (first | (refine wpY_move0 rfl rfl (by first | exact runs0 | exact runs1 rfl) Ext.refl rfl rfl rfl ?_; apply Exists.intro; refine ⟨?_, ?_⟩; · (go_simp; rfl)) | (refine wpY_move rfl rfl (by first | exact runs0 | exact runs1 rfl) Ext.refl rfl rfl rfl (fun _ _ _ h _ => h) ?_) | (refine wpY_val rfl rfl (by first | exact runs0 | exact runs1 rfl) Ext.refl rfl ?_; apply Exists.intro; refine ⟨?_, ?_⟩; · (intro a w' hR; intro h1; (first | (have e1 : _ = _ := h1) | skip); intro h2; (first | (have e2 : _ = _ := h2) | skip); go_simp; rfl)) | (refine wpY_val rfl rfl (by first | exact runs0 | exact runs1 rfl) Ext.refl rfl ?_; apply Exists.intro; refine ⟨?_, ?_⟩; · (intro a w' hR; intro h1; (first | (have e1 : _ = _ := h1) | skip); go_simp; rfl)) | (refine wpY_val rfl rfl (by first | exact runs0 | exact runs1 rfl) Ext.refl rfl ?_; apply Exists.intro; refine ⟨?_, ?_⟩; · (intro a w' hR; go_simp; rfl)) | (refine wpY_val rfl rfl (by first | exact runs0 | exact runs1 rfl) Ext.refl rfl ?_; apply Exists.intro; refine ⟨?_, ?_⟩; · (intro a w' hR; intro h1; (first | (have e1 : _ = _ := h1) | skip); intro h2; (first | (have e2 : _ = _ := h2) | skip); intro h3; (first | (have e3 : _ = _ := h3) | skip); go_simp; rfl)) | (refine wpY_skip rfl rfl (by first | exact .inl rfl | exact .inr rfl) ?_))
  refine wpY_done ?_
  intro w5 hx5 hS
  iterate 8 (rintro _ rfl)
  dsimp only [FinV]
  go_simp
  go_wp2
  go_ret
  exact ⟨by rw [← HNE.out]; rfl, HX.out.trans hx5⟩

def delK (k : Int) (s : Unit) (x : Rec.R) : Bool × Unit := (decide (x.1 ≠ k), s)
/-- all that are kept have the key -/
theorem keepK {k : Int} : ∀ {l : List Rec.R}, keepS (delK k) () l = l → ∀ x ∈ l, x.1 = k := by
  intro l h
  have h2 : keepS (delK k) () l = l.filter fun x => !decide (x.1 ≠ k) := keepS_pure (fun x : Rec.R => decide (x.1 ≠ k)) l
  rw [h2] at h
  intro x hx
  have := (List.filter_eq_self.1 h) x hx
  simpa using this
/-- a group more -/
theorem grp_more {S D : List Rec.R} {i n : Nat} (hi : i < S.length) (hD : D = S.drop i) (hn : 0 < n) (hnd : n ≤ D.length) (hoff : Rec.Off (Rec.grpF (S.take i)) S[i].1) (hsame : ∀ x ∈ D.take n, x.1 = S[i].1) :
    Rec.grpF (S.take (i + n)) = Rec.grpF (S.take i) ++ [D.take n] ∧ Rec.grpF (S.take i) ++ [D.take n] = Rec.grpF (S.take i) ++ [S[i] :: (D.take n).drop 1] := by
  have hd : D = S[i] :: S.drop (i + 1) := by rw [hD]; exact List.drop_eq_getElem_cons hi
  obtain ⟨n, rfl⟩ : ∃ m, n = m + 1 := ⟨n - 1, by omega⟩
  have ht : D.take (n + 1) = S[i] :: (S.drop (i + 1)).take n := by rw [hd, List.take_succ_cons]
  refine ⟨?_, by rw [ht]; rfl⟩
  have e : S.take (i + (n + 1)) = S.take i ++ D.take (n + 1) := by rw [hD, List.take_add]
  rw [e]
  unfold Rec.grpF
  rw [List.foldl_append, ht]
  refine Rec.fold_group (Rec.grpF_full _) hoff fun z hz => hsame z ?_
  rw [ht]; exact List.mem_cons_of_mem _ hz
theorem drop_getE {S D : List Rec.R} {i k : Nat} (hD : D = S.drop i) (hk : k < D.length) (hik : i + k < S.length) : D[k] = S[i + k] := by subst hD; simp

set_option maxRecDepth 100000 in
set_option maxHeartbeats 1000000 in
theorem groups_err (v : Value) (l : List Rec.R) (w : World) (hv : RP w v l) (hl : l.length ≤ 1000000) (hm : Rec.may l ≠ 0) :
    Calls Try.prog 34 #[v] w fun e w' => e = .returned (.tuple #[.slice none 0 0, .int .i64 (Rec.may l)]) ∧ Ext w w' := by
  have HS := Lib.hid (sort_err v l w hv hl hm)
  obtain ⟨A, c, rfl⟩ := hv.form
  generalize Rec.may l = m at *
  clear hv hm
  go_enter Try.func34, Try.ntmps34
  go_wp2_with fail
  refine HS.out.mono ?_
  rintro e w1 ⟨rfl, he1⟩
  go_wp2
  have hb := Blk.new w1 24 #[.slice none 0 0]
  have HX := Lib.hid (he1.alloc (.cells #[.slice none 0 0] 24))
  generalize w1.alloc (.cells #[.slice none 0 0] 24) = w2 at *
  have c0 : w2.cell? ⟨w1.heap.size, 0, none⟩ = some (.slice none 0 0) := hb.cell 0
  clear hb he1
  go_loopw [6] (fun o wr => o = .slice none 0 0 ∧ wr = w2) (fun _ _ => 0)
  case atStart => exact ⟨rfl, rfl⟩
  case round =>
    obtain ⟨rfl, rfl⟩ := hrel
    go_wp2
    go_ret2
    exact ⟨rfl, HX.out⟩

/-- what the loop of Groups holds -/
structure GrpI (w1 w2 : World) (g : Nat) (S : List Rec.R) (i : Nat) (A : Option Addr) (n c : Nat) (o : Value) (us : List Value) (w : World) : Prop where
  box : Blk w g 24 #[.slice A n c]
  rd : RP w1 (.slice A n c) (S.drop i)
  len : n = (S.drop i).length
  own : OV 24 23 w2.heap.size w o (Rec.grpF (S.take i)) us
  ext : ExtQ (fun k => k = g) w2 w

set_option maxRecDepth 100000 in
set_option maxHeartbeats 8000000 in
theorem groups_ok (v : Value) (l : List Rec.R) (w : World) (hv : RP w v l) (hl : l.length ≤ 1000000) (hm : Rec.may l = 0) :
    Calls Try.prog 34 #[v] w fun e w' => ∃ v', e = .returned (.tuple #[v', .int .i64 0]) ∧ RRS w' v' (Rec.grp l) ∧ Ext w w' := by
  have HS := Lib.hid (sort_ok v l w hv hl hm)
  unfold Rec.grp
  have HSL := Lib.hid (show (Rec.srt l).length ≤ 1000000 by rw [Rec.srt_len]; exact hl)
  obtain ⟨A, c, rfl⟩ := hv.form
  generalize Rec.srt l = S at *
  clear hv hm
  go_enter Try.func34, Try.ntmps34
  go_wp2_with fail
  refine HS.out.mono ?_
  rintro e w1 ⟨v1, rfl, ho1, he1⟩
  have HO1 := Lib.hid ho1
  obtain ⟨A1, c1, rfl⟩ := ho1.rp.form
  go_wp2
  have HB2 := Lib.hid (Blk.new w1 24 #[.slice A1 S.length c1])
  have HX12 := Lib.hid ((Ext.refl w1).alloc (.cells #[.slice A1 S.length c1] 24))
  have HX1 := Lib.hid he1
  have HGS := Lib.hid (show w1.heap.size < (w1.alloc (.cells #[.slice A1 S.length c1] 24)).heap.size by simp)
  generalize w1.alloc (.cells #[.slice A1 S.length c1] 24) = w2 at *
  obtain ⟨g, hg⟩ : ∃ g, w1.heap.size = g := ⟨_, rfl⟩
  rw [hg] at HB2 HGS ⊢
  have HG := Lib.hid hg
  clear ho1 he1 hg
  go_loopw [6, 7] (fun o _ wr => ∃ (i : Nat) (us : List Value) (A : Option Addr) (n c : Nat), i ≤ S.length ∧ GrpI w1 w2 g S i A n c o us wr ∧ (∀ h : i < S.length, Rec.Off (Rec.grpF (S.take i)) S[i].1)) (fun _ _ wr => slLen ((wr.cell? ⟨g, 0, none⟩).getD undef))
  case atStart => exact ⟨0, [], A1, S.length, c1, Nat.zero_le _, ⟨HB2.out, by simpa using HO1.out.rp, by simp, OV.nil _ _ _ _, ExtQ.refl _ _⟩, fun _ => Rec.off_nil _⟩
  case round =>
    obtain ⟨i, us, A, n, c, hi, hI, hoff⟩ := hrel
    rename World => wA
    obtain ⟨D, hD⟩ : ∃ D, D = S.drop i := ⟨_, rfl⟩
    have hlen := hI.len
    rw [← hD] at hlen
    have hDl : D.length = S.length - i := by rw [hD, List.length_drop]
    subst hlen
    have HI := Lib.hid hI
    have HDD := Lib.hid hD
    have HOFF := Lib.hid hoff
    have c0 : wA.cell? ⟨g, 0, none⟩ = some (.slice A D.length c) := hI.box.cell 0
    obtain ⟨AO, cO, rfl⟩ := hI.own.rv.form
    have hgl := Rec.grpF_len (S.take i)
    rw [List.length_take] at hgl
    have hSL := HSL.out
    clear hI hoff hD
    by_cases hlt : i < S.length
    · have gpos : (0 : Int) < (D.length : Int) := by omega
      have hDpos : 0 < D.length := by omega
      have hrd : RP wA (.slice A D.length c) D := by
        have h1 := HI.out.rd
        rw [← HDD.out] at h1
        exact RP.extNew (Q := fun k => k = g) h1 ((ExtQ.of HX12.out).trans HI.out.ext) (fun k hk => by have := HG.out; omega)
      have hD0 : D[0] = S[i] := drop_getE HDD.out hDpos (by omega)
      have eg : ∀ args w, (callFunc 61 args).run Try.prog w = .ok (.enter 61 args) w := enters_of Try.func61 (by kernel_rfl) rfl
      have HIX := Lib.hid (idxM_any (delK D[0].1) 61 #[.pointer (some ⟨g, 0, none⟩)] eg (fun _ W => Blk W g 24 #[.slice A D.length c] ∧ RP W (.slice A D.length c) D) (fun _ => False)
        (.slice A D.length c) D wA hrd.re (fun _ _ _ _ _ _ _ h => h) () ⟨HI.out.box, hrd⟩ (by omega)
        (fun j hj W h => (groups1_any g A c D hDpos D[j] W h.1 h.2).mono fun e W' ⟨h1, h2⟩ => ⟨h1, ⟨h.1.ext h2, h.2.ext h2⟩, ExtQ.of h2⟩))
      have HRD := Lib.hid hrd
      have HD0 := Lib.hid hD0
      have HLT := Lib.hid hlt
      have HDL := Lib.hid hDl
      have HDB := Lib.hid (show D.length ≤ 1000000 by have := HSL.out; omega)
      clear eg hrd hD0 hDl
      go_wp2_with fail
      refine HIX.out.mono ?_
      rintro e w3 ⟨k, hk, hkp, hx3, hr⟩
      have hx3' : Ext wA w3 := hx3.ext (fun _ h => h.elim)
      have HX3 := Lib.hid hx3'
      have c0 := hx3'.cell c0
      clear hx3 hx3' HIX
      -- the group's length
      obtain ⟨n, hn⟩ : ∃ n, k = n := ⟨_, rfl⟩
      subst hn
      have hk0 : 0 < k := by
        rcases hr with ⟨h1, _⟩ | ⟨h1, _, h2, _⟩
        · omega
        · rcases Nat.eq_zero_or_pos k with h | h
          · subst h; simp [delK] at h2
          · exact h
      have hsame : ∀ x ∈ D.take k, x.1 = (S[i]'(HLT.out)).1 := fun x hx => by rw [← HD0.out]; exact keepK hkp x hx
      have HSAME := Lib.hid hsame
      have HNK := Lib.hid (show ∀ (h : i + k < S.length), S[i + k].1 ≠ D[0].1 from fun h => by
        rcases hr with ⟨h1, _⟩ | ⟨h1, _, h2, _⟩
        · have := HDL.out; omega
        · rw [← drop_getE HDD.out h1 h]
          simpa [delK] using h2)
      clear hsame hkp
      obtain ⟨N, hN⟩ : ∃ N, N = D.length := ⟨_, rfl⟩
      obtain ⟨z, hz⟩ : ∃ z, z = N - k := ⟨_, rfl⟩
      obtain ⟨hhi, rhi⟩ := RP.hi (k := k) elemM HRD.out hk
      obtain ⟨A8, hlo8, rlo8⟩ := RP.lo (k := k) elemM (show RP w1 (.slice A D.length c) D by have := HI.out.rd; rwa [← HDD.out] at this) hk
      have htl : (D.take k).length = k := by rw [List.length_take]; omega
      rw [← hN, ← hz] at rlo8
      have hlo8 : ∀ w', (Instr.slice 24 (.slice A N c) (some (.int .i64 (k : Int))) none none).run Try.prog w' = .ok (.slice A8 z (c - k)) w' := by rw [hz, hN]; exact hlo8
      have hhi : ∀ w', (Instr.slice 24 (.slice A N c) none (some (.int .i64 (k : Int))) none).run Try.prog w' = .ok (.slice A k c) w' := by rw [hN]; exact hhi
      have c0n : w3.cell? ⟨g, 0, none⟩ = some (.slice A N c) := by rw [hN]; exact c0
      clear c0
      have c0 := c0n
      clear c0n
      have HL8 := Lib.hid rlo8
      have HRH := Lib.hid (rhi.ext HX3.out)
      have HTL := Lib.hid htl
      have HK := Lib.hid (And.intro hk hk0)
      have HZ := Lib.hid hz
      have HBX := Lib.hid (show Blk w3 g 24 #[.slice A N c] by rw [hN]; exact HI.out.box.ext HX3.out)
      have HN := Lib.hid hN
      have HGL := Lib.hid (show (Rec.grpF (S.take i)).length ≤ 1000000 by have := HSL.out; omega)
      clear rhi rlo8 htl hz hgl hk
      generalize hF : Rec.grpF (S.take i) = F at *
      have HF := Lib.hid hF
      have HOWN := Lib.hid (show OV 24 23 w2.heap.size wA (.slice AO F.length cO) F us by rw [← hF]; have := HI.out.own; rwa [hF] at this ⊢)
      clear hF
      rcases hr with ⟨hkl, rfl, hj⟩ | ⟨hkl, rfl, hd, hj⟩
      · have hneg : (-1 : Int) < 0 := by omega
        obtain rfl : N = k := by omega
        clear hN hkl hj 
        go_wp2_with fail
        refine (cloneM_any _ (D.take N) w3 HRH.out (by have := HTL.out; have := HK.out.1; have := HDB.out; omega)).mono ?_
        rintro e w4 ⟨v4, rfl, ho4, he4⟩
        have hgen : ∀ g2, v4.ownBlock = some g2 → w3.heap.size ≤ g2 := fun g2 hg2 => (ho4.own.lt g2 hg2).1
        obtain ⟨A4, c4, hv4⟩ := ho4.rp.form
        rw [HTL.out] at hv4
        subst hv4
        have HGEN := Lib.hid hgen
        have HO4 := Lib.hid ho4
        have HOV := Lib.hid ((HOWN.out.ext HX3.out).ext he4)
        have HX4 := Lib.hid (HX3.out.trans he4)
        have HB4 := Lib.hid (HBX.out.ext he4)
        clear ho4 he4 hgen c0
        have HOL := Lib.hid (HOV.out.ext ((Ext.refl w4).alloc (.cells #[.slice A4 N c4] 24)))
        have HLIT := Lib.hid (show Rd (w4.alloc (.cells #[.slice A4 N c4] 24)) 1 (.slice (some ⟨w4.heap.size, 0, none⟩) 1 1) 1 [.slice A4 N c4] from Rd.lit w4 #[.slice A4 N c4] 24 1 rfl (by unfold maxLen; omega))
        have HSZ := Lib.hid (Nat.le_trans HI.out.ext.size HX4.out.size)
        go_wp2_with (at_builtin; refine wpList_app rfl elemSS (w4.alloc (.cells #[.slice A4 N c4] 24)) _ _ rfl w2.heap.size _ F.length us rfl HOL.out.own _ 1 [.slice A4 N c4] rfl HLIT.out (by intro u hu; rw [List.mem_singleton.1 hu]; rfl) (by have := HGL.out; omega) (by have := HGL.out; unfold maxLen; omega) (by have := HSZ.out; simp; omega) ?_; intro v5 w5 ha; have HA5 := Lib.hid ha; have hown5 : ∀ k2, (Value.slice AO F.length cO).ownBlock = some k2 → w2.heap.size ≤ k2 := fun k2 hk2 => (HOV.out.own.lt k2 hk2).1; have hx5 : ExtQ (fun k2 => (Value.slice AO F.length cO).ownBlock = some k2) w4 w5 := (ExtQ.of ((Ext.refl w4).alloc (.cells #[.slice A4 N c4] 24))).trans (ExtQ.grown ha.grown (fun k2 hk2 => hk2)); have hb5 := HB4.out.extQ hx5 (fun hq => by have := hown5 g hq; have := HGS.out; omega); have HB5 := Lib.hid hb5; have HX5 := Lib.hid hx5; have HOW5 := Lib.hid hown5; have c0 : w5.cell? ⟨g, 0, none⟩ = some (.slice A N c) := hb5.cell 0; have f0 : w5.frozen? ⟨g, 0, none⟩ = false := hb5.frozen 0; obtain ⟨A5, c5, hv5, _⟩ := Rd.of_own ha.own; subst hv5; clear ha hb5 hx5 hown5)
        have hb6 := HB5.out.set_ 0 (.slice A8 z (c - N))
        have hx6 : ExtQ (fun k2 => k2 = g) w5 (w5.setCell ⟨g, 0, none⟩ (.slice A8 z (c - N))) := ExtQ.setCell (Q := fun k2 => k2 = g) (ExtQ.refl _ _) (p := ⟨g, 0, none⟩) rfl _
        generalize w5.setCell ⟨g, 0, none⟩ (.slice A8 z (c - N)) = w6 at *
        have hb6 : Blk w6 g 24 #[.slice A8 z (c - N)] := hb6
        have hk := HK.out.1
        have hg6 := grp_more HLT.out HDD.out HK.out.2 HK.out.1 (by rw [HF.out]; exact HOFF.out HLT.out) HSAME.out
        rw [HF.out] at hg6
        have hpush := HOV.out.push (OE.low (OP.oe HO4.out) (Nat.le_trans HI.out.ext.size HX3.out.size)) (fun g2 h1 h2 => by
          have h3 := HGEN.out g2 h1
          have h4 := (HOWN.out.own.lt g2 h2).2
          have := HX3.out.size
          omega) (fun j y hy g2 h1 h2 => by
          have h3 := HGEN.out g2 h1
          have hjl : j < F.length := by have := (List.getElem?_eq_some_iff.1 hy).1; have := HOWN.out.len; omega
          obtain ⟨u, hu, ho, _⟩ := HOWN.out.row j hjl
          rw [hy] at hu
          injection hu with hu
          subst hu
          have h4 := (ho.own.lt g2 h2).2
          have := HX3.out.size
          omega) HA5.out
        rw [← hg6.1] at hpush
        have hdd : D.drop N = S.drop (i + N) := by rw [HDD.out, List.drop_drop]
        have hdl : z = (S.drop (i + N)).length := by have := HDL.out; have := HZ.out; have := HN.out; rw [List.length_drop]; omega
        refine ⟨⟨i + N, us ++ [.slice A4 N c4], A8, z, c - N, by have := HDL.out; omega, ⟨hb6, by rw [← hdd]; exact HL8.out, hdl, ?_, ?_⟩, fun h => ?_⟩, ?_⟩
        · have h9 := hpush.extQ hx6 (fun k2 hk2 => by have := HGS.out; omega)
          exact h9
        · exact ((((HI.out.ext.trans (ExtQ.of HX4.out)).mono (Q' := fun k2 => k2 = g ∨ (Value.slice AO F.length cO).ownBlock = some k2) (fun k2 h => .inl h)).trans (HX5.out.mono fun k2 h => .inr h)).mono' (Q' := fun k2 => k2 = g) (fun k2 hl hq => by
            rcases hq with h | h
            · exact h
            · have := HOW5.out k2 h; omega)).trans hx6
        · rw [hg6.1, hg6.2]
          exact Rec.off_snoc (by rw [← HD0.out]; exact fun e => HNK.out h e.symm)
        · rw [hb6.cell 0, HI.out.box.cell 0]
          simp [slLen]
          have := HK.out.2
          have := HDL.out
          have := HZ.out
          have := HN.out
          omega
      · have hneg : ¬ (k : Int) < 0 := by omega
        clear hN hkl hj hd
        go_wp2_with fail
        refine (cloneM_any _ (D.take k) w3 HRH.out (by have := HTL.out; have := HK.out.1; have := HDB.out; omega)).mono ?_
        rintro e w4 ⟨v4, rfl, ho4, he4⟩
        have hgen : ∀ g2, v4.ownBlock = some g2 → w3.heap.size ≤ g2 := fun g2 hg2 => (ho4.own.lt g2 hg2).1
        obtain ⟨A4, c4, hv4⟩ := ho4.rp.form
        rw [HTL.out] at hv4
        subst hv4
        have HGEN := Lib.hid hgen
        have HO4 := Lib.hid ho4
        have HOV := Lib.hid ((HOWN.out.ext HX3.out).ext he4)
        have HX4 := Lib.hid (HX3.out.trans he4)
        have HB4 := Lib.hid (HBX.out.ext he4)
        clear ho4 he4 hgen c0
        have HOL := Lib.hid (HOV.out.ext ((Ext.refl w4).alloc (.cells #[.slice A4 k c4] 24)))
        have HLIT := Lib.hid (show Rd (w4.alloc (.cells #[.slice A4 k c4] 24)) 1 (.slice (some ⟨w4.heap.size, 0, none⟩) 1 1) 1 [.slice A4 k c4] from Rd.lit w4 #[.slice A4 k c4] 24 1 rfl (by unfold maxLen; omega))
        have HSZ := Lib.hid (Nat.le_trans HI.out.ext.size HX4.out.size)
        go_wp2_with (at_builtin; refine wpList_app rfl elemSS (w4.alloc (.cells #[.slice A4 k c4] 24)) _ _ rfl w2.heap.size _ F.length us rfl HOL.out.own _ 1 [.slice A4 k c4] rfl HLIT.out (by intro u hu; rw [List.mem_singleton.1 hu]; rfl) (by have := HGL.out; omega) (by have := HGL.out; unfold maxLen; omega) (by have := HSZ.out; simp; omega) ?_; intro v5 w5 ha; have HA5 := Lib.hid ha; have hown5 : ∀ k2, (Value.slice AO F.length cO).ownBlock = some k2 → w2.heap.size ≤ k2 := fun k2 hk2 => (HOV.out.own.lt k2 hk2).1; have hx5 : ExtQ (fun k2 => (Value.slice AO F.length cO).ownBlock = some k2) w4 w5 := (ExtQ.of ((Ext.refl w4).alloc (.cells #[.slice A4 k c4] 24))).trans (ExtQ.grown ha.grown (fun k2 hk2 => hk2)); have hb5 := HB4.out.extQ hx5 (fun hq => by have := hown5 g hq; have := HGS.out; omega); have HB5 := Lib.hid hb5; have HX5 := Lib.hid hx5; have HOW5 := Lib.hid hown5; have c0 : w5.cell? ⟨g, 0, none⟩ = some (.slice A N c) := hb5.cell 0; have f0 : w5.frozen? ⟨g, 0, none⟩ = false := hb5.frozen 0; obtain ⟨A5, c5, hv5, _⟩ := Rd.of_own ha.own; subst hv5; clear ha hb5 hx5 hown5)
        have hb6 := HB5.out.set_ 0 (.slice A8 z (c - k))
        have hx6 : ExtQ (fun k2 => k2 = g) w5 (w5.setCell ⟨g, 0, none⟩ (.slice A8 z (c - k))) := ExtQ.setCell (Q := fun k2 => k2 = g) (ExtQ.refl _ _) (p := ⟨g, 0, none⟩) rfl _
        generalize w5.setCell ⟨g, 0, none⟩ (.slice A8 z (c - k)) = w6 at *
        have hb6 : Blk w6 g 24 #[.slice A8 z (c - k)] := hb6
        have hk := HK.out.1
        have hg6 := grp_more HLT.out HDD.out HK.out.2 HK.out.1 (by rw [HF.out]; exact HOFF.out HLT.out) HSAME.out
        rw [HF.out] at hg6
        have hpush := HOV.out.push (OE.low (OP.oe HO4.out) (Nat.le_trans HI.out.ext.size HX3.out.size)) (fun g2 h1 h2 => by
          have h3 := HGEN.out g2 h1
          have h4 := (HOWN.out.own.lt g2 h2).2
          have := HX3.out.size
          omega) (fun j y hy g2 h1 h2 => by
          have h3 := HGEN.out g2 h1
          have hjl : j < F.length := by have := (List.getElem?_eq_some_iff.1 hy).1; have := HOWN.out.len; omega
          obtain ⟨u, hu, ho, _⟩ := HOWN.out.row j hjl
          rw [hy] at hu
          injection hu with hu
          subst hu
          have h4 := (ho.own.lt g2 h2).2
          have := HX3.out.size
          omega) HA5.out
        rw [← hg6.1] at hpush
        have hdd : D.drop k = S.drop (i + k) := by rw [HDD.out, List.drop_drop]
        have hdl : z = (S.drop (i + k)).length := by have := HDL.out; have := HZ.out; have := HN.out; rw [List.length_drop]; omega
        refine ⟨⟨i + k, us ++ [.slice A4 k c4], A8, z, c - k, by have := HDL.out; omega, ⟨hb6, by rw [← hdd]; exact HL8.out, hdl, ?_, ?_⟩, fun h => ?_⟩, ?_⟩
        · have h9 := hpush.extQ hx6 (fun k2 hk2 => by have := HGS.out; omega)
          exact h9
        · exact ((((HI.out.ext.trans (ExtQ.of HX4.out)).mono (Q' := fun k2 => k2 = g ∨ (Value.slice AO F.length cO).ownBlock = some k2) (fun k2 h => .inl h)).trans (HX5.out.mono fun k2 h => .inr h)).mono' (Q' := fun k2 => k2 = g) (fun k2 hl hq => by
            rcases hq with h | h
            · exact h
            · have := HOW5.out k2 h; omega)).trans hx6
        · rw [hg6.1, hg6.2]
          exact Rec.off_snoc (by rw [← HD0.out]; exact fun e => HNK.out h e.symm)
        · rw [hb6.cell 0, HI.out.box.cell 0]
          simp [slLen]
          have := HK.out.2
          have := HDL.out
          have := HZ.out
          have := HN.out
          omega
    · have hi2 : i = S.length := by omega
      have hD0 : D.length = 0 := by omega
      have gpos : ¬ (0 : Int) < (D.length : Int) := by omega
      have hown2 := HI.out.own
      rw [hi2, List.take_length] at hown2
      go_wp2
      go_ret2
      exact ⟨_, rfl, hown2.rv.map (fun u x q => RE.rp q), (HX1.out.trans HX12.out).andQ HI.out.ext (fun k hk => by have := HG.out; have := HX1.out.size; omega)⟩
end Go.Proofs.Ytgmaeeihfoicmaa
