/-
  The walks of package page: a page, its tag, its bytes.
-/
import Derived.Test.YtklnbmcfnnmliaaDoorPageMath
import Derived.Test.YtklnbmcfnnmliaaDoorCopy
import Derived.Test.YtklnbmcfnnmliaaDoorNumRead
import Derived.Test.YtklnbmcfnnmliaaDoorSlcCat
import Derived.Test.YtklnbmcfnnmliaaDoorSlc
import Derived.StillTailTactics
namespace Go.Proofs.YtklnbmcfnnmliaaDoor
open Go.RowKit Go.Ox

set_option maxRecDepth 100000 in
set_option maxHeartbeats 400000 in
theorem pmay_yes (n : Int) (w : World) (h : TagMay n) : Calls Tryd.prog 17 #[.int .i64 n] w fun e w' => e = .returned (.bool true) ∧ w = w' := by
  obtain ⟨h1, h2⟩ := h
  go_enter Tryd.func17, Tryd.ntmps17
  go_wp2
  go_ret
  exact ⟨rfl, rfl⟩
set_option maxRecDepth 100000 in
set_option maxHeartbeats 400000 in
theorem pmay_no (n : Int) (w : World) (h : ¬ TagMay n) : Calls Tryd.prog 17 #[.int .i64 n] w fun e w' => e = .returned (.bool false) ∧ w = w' := by
  by_cases h1 : n < 1
  · clear h
    go_enter Tryd.func17, Tryd.ntmps17
    go_wp2
    go_ret
    exact ⟨rfl, rfl⟩
  · have h2 : 4611686018427387903 < n := by unfold TagMay at h; omega
    have h3 : decide (n ≤ 4611686018427387903) = false := by simp; omega
    clear h
    go_enter Tryd.func17, Tryd.ntmps17
    go_wp2
    go_ret
    exact ⟨rfl, rfl⟩

set_option maxRecDepth 100000 in
set_option maxHeartbeats 400000 in
theorem pput_no (n : Int) (v : Value) (w : World) (h : ¬ TagMay n) (hv : ∃ A k c, v = .slice A k c) : Calls Tryd.prog 8 #[.int .i64 n, v] w fun e w' => e = .returned (.tuple #[.slice none 0 0, .int .i64 1]) ∧ w = w' := by
  obtain ⟨A, k, c, rfl⟩ := hv
  have H := Lib.hid (pmay_no n w h)
  clear h
  go_enter Tryd.func8, Tryd.ntmps8
  go_wp2_with (go_at_call 17; refine H.out.mono ?_; rintro e w' ⟨rfl, rfl⟩)
  go_ret2
  exact ⟨rfl, rfl⟩
set_option maxRecDepth 100000 in
set_option maxHeartbeats 400000 in
theorem pput_long (n : Int) (v : Value) (A : Option Addr) (k c : Nat) (w : World) (h : TagMay n) (hv : v = .slice A k c) (hk : 43 < k) : Calls Tryd.prog 8 #[.int .i64 n, v] w fun e w' => e = .returned (.tuple #[.slice none 0 0, .int .i64 3]) ∧ w = w' := by
  subst hv
  have H := Lib.hid (pmay_yes n w h)
  clear h
  have hk2 : (43 : Int) < (k : Int) := by omega
  go_enter Tryd.func8, Tryd.ntmps8
  go_wp2_with (go_at_call 17; refine H.out.mono ?_; rintro e w' ⟨rfl, rfl⟩)
  go_ret2
  exact ⟨rfl, rfl⟩

theorem OB.rep {E base : Nat} {w : World} {v : Value} {n : Nat} (h : w.ownsRow base E 1 v n ((List.replicate n (0 : UInt8)).map byteV)) : OB E base w v (List.replicate n 0) := by
  unfold OB
  rw [List.length_replicate]; exact h
theorem OB.rbn {E base : Nat} {w : World} {v : Value} {l : List UInt8} (h : OB E base w v l) {n : Nat} (_hn : l.length = n) : RB w v l := h.rb
theorem head_1 (n : Nat) (b : List UInt8) : ((List.replicate 52 (0 : UInt8)).take 0 ++ (pageT n ++ (List.replicate 52 0).drop (0 + (pageT n).length))).set 8 (UInt8.ofNat b.length) = pageT n ++ UInt8.ofNat b.length :: List.replicate 43 0 := by
  have h := pageT_len n
  rw [List.take_zero, List.nil_append, h, List.set_append_right _ _ (by omega), h]
  rfl
theorem head_2 (n : Nat) {b : List UInt8} (_hb : b.length ≤ 43) : (pageT n ++ UInt8.ofNat b.length :: List.replicate 43 0).take 9 ++ (b ++ (pageT n ++ UInt8.ofNat b.length :: List.replicate 43 (0 : UInt8)).drop (9 + b.length)) = pageHead n b := by
  have h := pageT_len n
  have e : pageT n ++ UInt8.ofNat b.length :: List.replicate 43 (0 : UInt8) = (pageT n ++ [UInt8.ofNat b.length]) ++ List.replicate 43 0 := by simp
  have hl : (pageT n ++ [UInt8.ofNat b.length]).length = 9 := by simp [h]
  rw [e, List.take_left' hl, ← List.drop_drop, List.drop_left' hl, List.drop_replicate]
  simp [pageHead]

set_option maxRecDepth 100000 in
set_option maxHeartbeats 1000000 in
theorem pput_any (n : Nat) (v : Value) (b : List UInt8) (w : World) (hh : Halves w) (h : TagMay n) (hv : RB w v b) (hb : b.length ≤ 43) :
    Calls Tryd.prog 8 #[.int .i64 n, v] w fun e w' => ∃ u, e = .returned (.tuple #[u, .int .i64 0]) ∧ OB 5 w.heap.size w' u (pageP n b) ∧ Ext w w' := by
  obtain ⟨A, c, rfl⟩ := hv.form
  have HM := Lib.hid (pmay_yes n w h)
  have hn : n < 9223372036854775808 := by have := h.2; omega
  have hF := Lib.hid (fix_yes n 8 w hn ⟨by omega, by omega, by omega, (Num.width_le 8 n (by omega)).2 (by omega)⟩)
  have HB := Lib.hid hv
  have HH := Lib.hid hh
  have hb2 : ¬ (43 : Int) < (b.length : Int) := by omega
  have hT := Lib.hid (pageT_len n)
  have h1 := Lib.hid (head_1 n b)
  have h2 := Lib.hid (head_2 n hb)
  have h3 := Lib.hid (pageHead_len n hb)
  have hP : Hid (pageP n b = sealed (pageHead n b) ++ pageT n) := Lib.hid rfl
  have HLB := Lib.hid hb
  have hbl : 0 ≤ (b.length : Int) := by omega
  have hbl2 : (b.length : Int) < 256 := by omega
  have hby : Hid (byteV (UInt8.ofNat b.length) = .int .u8 (b.length : Int)) := Lib.hid (byteV_of (by omega))
  clear hv hh hb h
  generalize pageP n b = p at *
  generalize pageHead n b = hd at *
  rw [show Num.digits n 8 = pageT n from rfl] at hF
  generalize pageT n = t at *
  go_enter Tryd.func8, Tryd.ntmps8
  go_wp2_with (first
    | (go_at_call 17; refine HM.out.mono ?_; rintro e w' ⟨rfl, rfl⟩)
    | (go_at_call 18; refine hF.out.mono ?_; rintro e w1 ⟨v1, rfl, ho1, he1⟩; obtain ⟨A1, c1, rfl⟩ := ho1.form; have HO1 := Lib.hid ho1; have HE1 := Lib.hid he1; clear ho1 he1)
    | (at_make; refine wpList_mk rfl elemB _ _ _ rfl 52 rfl rfl (by omega) (by unfold maxLen; omega) ?_; intro v3 w3 hv3 ho3 he3; subst hv3; rw [madeB] at ho3; have HO3 := Lib.hid (OB.rep ho3); have HE3 := Lib.hid he3; clear ho3 he3)
    | (refine wpList_copyB rfl elemB _ (.tmp 23) (.tmp 24) rfl w1.heap.size w1.heap.size 52 52 0 (List.replicate 52 0) HO3.out (some ⟨w1.heap.size, 0, none⟩) 52 52 rfl (by simp) t (by rw [hT.out]; omega) (fun _ => rfl) _ rfl (HO1.out.rb.ext HE3.out) ?_; intro w4 ho4 hg4; have hc8 := ho4.atD (j := 8) (by simp [hT.out]); have h5 := ho4.stored 8 (UInt8.ofNat b.length); rw [h1.out, hby.out] at h5; have HO5 := Lib.hid h5; have HX5 := Lib.hid (((HE1.out.trans HE3.out).grown hg4 (fun k e => by cases e; exact HE1.out.size)).setCell (p := ⟨w1.heap.size, 8, none⟩) HE1.out.size (.int .u8 (b.length : Int))); have HY5 := Lib.hid ((HE3.out.grown hg4 (fun k e => by cases e; exact Nat.le_refl _)).setCell (p := ⟨w1.heap.size, 8, none⟩) (Nat.le_refl _) (.int .u8 (b.length : Int))); obtain ⟨hc8, hf8, _⟩ := hc8; generalize n8 _ = y8 at hc8; clear ho4 hg4 h5)
    | (refine wpList_copyB rfl elemB _ (.tmp 32) (.tmp 33) rfl w1.heap.size w1.heap.size 52 52 9 (t ++ UInt8.ofNat b.length :: List.replicate 43 0) HO5.out (some ⟨w1.heap.size, 9, none⟩) 43 43 rfl (by simp [hT.out]) b HLB.out (fun _ => rfl) _ rfl (HB.out.ext HX5.out) ?_; intro w5 ho5 hg5; rw [h2.out] at ho5; have HO6 := Lib.hid ho5; have HX6 := Lib.hid (HX5.out.grown hg5 (fun k e => by cases e; exact HE1.out.size)); have HY6 := Lib.hid (HY5.out.grown hg5 (fun k e => by cases e; exact Nat.le_refl _)); clear ho5 hg5 hc8 hf8)
    | (go_at_call 20; refine (seal_any _ hd _ (HH.out.ext HX6.out) (OB.rbn HO6.out h3.out) (by rw [h3.out]; omega)).mono ?_; rintro e w6 ⟨v6, rfl, ho6, he6⟩; obtain ⟨A6, c6, rfl⟩ := ho6.form; have HO7 := Lib.hid ho6; have HE7 := Lib.hid he6; clear ho6 he6)
    | (go_at_call 19; refine (concat_any _ [sealed hd, t] _ (RBs.lit2 _ HO7.out.rb (HO1.out.rb.ext (HY6.out.trans HE7.out))) (by simp [sealed_len, h3.out, hT.out])).mono ?_; rintro e w8 ⟨v8, rfl, ho8, he8⟩))
  go_ret2
  have hx := (HX6.out.trans HE7.out).alloc (.cells #[.slice A6 (sealed hd).length c6, .slice A1 t.length c1] 22)
  exact ⟨_, rfl, by have := ho8.low hx.size; rw [hP.out]; simpa using this, hx.trans he8⟩

/-- the number that is read of a sector's first bytes -/
def tagN (l : List UInt8) : Nat := (Num.fixedP 8 ⟨l.take 8, false⟩).2
theorem tagL_of {l : List UInt8} (h : l.length = 64) (he : l.take 8 = l.drop 56) (hm : TagMay (tagN l)) : tagL l = some (tagN l) := by
  have h8 : (l.take 8).length = 8 := by rw [List.length_take, h]; rfl
  unfold tagN at *
  by_cases hv : 9223372036854775807 < Num.val (l.take 8)
  · have e : Num.fixedP 8 ⟨l.take 8, false⟩ = (Num.failP (Num.bytesP 8 ⟨l.take 8, false⟩).1, 0) := Num.fixedP_bad (by omega) (.inr (by rw [show (8 : Int) = ((8 : Nat) : Int) from rfl, Num.bytesP_yes rfl (by simp [h8])]; simpa [List.take_of_length_le (show (l.take 8).length ≤ 8 by omega)] using hv))
    rw [e] at hm
    exact absurd hm.1 (by simp)
  · have e := Num.fixedP_app (l := l.take 8) (r := []) (by omega) (by omega) (by omega)
    rw [h8, List.append_nil] at e
    have e : Num.fixedP 8 ⟨l.take 8, false⟩ = (⟨[], false⟩, Num.val (l.take 8)) := e
    rw [e] at hm ⊢
    unfold tagL
    obtain ⟨h1, h2⟩ := hm
    simp only at h1 h2
    rw [if_pos ⟨h, he, by omega, by omega⟩]
theorem tagL_no {l : List UInt8} (h : l.length ≠ 64 ∨ l.take 8 ≠ l.drop 56 ∨ ¬ TagMay (tagN l)) : tagL l = none := by
  unfold tagL
  rw [if_neg]
  rintro ⟨h1, h2, h3, h4⟩
  rcases h with h | h | h
  · exact h h1
  · exact h h2
  · apply h
    have h8 : (l.take 8).length = 8 := by rw [List.length_take, h1]; rfl
    have e := Num.fixedP_app (l := l.take 8) (r := []) (by omega) (by omega) (by omega)
    rw [h8, List.append_nil] at e
    have e : Num.fixedP 8 ⟨l.take 8, false⟩ = (⟨[], false⟩, Num.val (l.take 8)) := e
    unfold tagN
    rw [e]
    exact ⟨by simp only; omega, by simp only; omega⟩
/-- what Tag answers -/
def tagV (l : List UInt8) : Value := match tagL l with
  | none => .tuple #[.int .i64 0, .bool false]
  | some n => .tuple #[.int .i64 (n : Int), .bool true]
theorem tagV_no {l : List UInt8} (h : tagL l = none) : Ending.returned (.tuple #[.int .i64 0, .bool false]) = .returned (tagV l) := by unfold tagV; rw [h]
theorem tagV_yes {l : List UInt8} {n : Nat} (h : tagL l = some n) : Ending.returned (.tuple #[.int .i64 (n : Int), .bool true]) = .returned (tagV l) := by unfold tagV; rw [h]

set_option maxRecDepth 100000 in
set_option maxHeartbeats 400000 in
theorem ptag_any (v : Value) (l : List UInt8) (w : World) (hv : RB w v l) (_hl : l.length ≤ 1000000) : Calls Tryd.prog 11 #[v] w fun e w' => e = .returned (tagV l) ∧ Ext w w' := by
  obtain ⟨A, c, rfl⟩ := hv.form
  by_cases h64 : l.length = 64
  · obtain ⟨b, o, rfl, hcell0⟩ := hv.byteS (k := 0) (by omega)
    clear hcell0
    have hc := hv.nc.1
    have hb1 := Lib.hid (hv.takeS (k := 8) (by omega))
    have hb2 := hv.dropS (k := 56) (by omega)
    rw [if_neg (by omega), h64] at hb2
    have hb2 : RB w (.slice (some ⟨b, o + 56, none⟩) 8 (c - 56)) (l.drop 56) := by simpa [Addr.add] using hb2
    have HB2 := Lib.hid hb2
    rw [h64] at hc
    have hc8 : (8 : Int) ≤ (c : Int) := by omega
    have hc9 : ¬ c = 56 := by omega
    have HL := Lib.hid h64
    have HT := Lib.hid (fun h he hm => @tagL_of l h he hm)
    have HNO := Lib.hid (fun h => @tagL_no l h)
    rw [h64]
    have hfix := fun (g : Nat) (w : World) (h0 : NR w g ⟨l.take 8, false⟩) => fixed_any g 8 ⟨l.take 8, false⟩ w h0 (by simp; omega)
    rw [show (Num.fixedP 8 ⟨l.take 8, false⟩).2 = tagN l from rfl] at hfix
    have HFX := Lib.hid hfix
    have hl8 : (l.take 8).length ≤ 1000000 := by simp; omega
    have HL8 := Lib.hid hl8
    clear hfix hb2 hv _hl h64 hl8
    have hyes := fun (w : World) (h : TagMay (tagN l)) => pmay_yes (tagN l) w h
    have hno := fun (w : World) (h : ¬ TagMay (tagN l)) => pmay_no (tagN l) w h
    have HY := Lib.hid hyes
    have HN := Lib.hid hno
    clear hyes hno
    generalize tagN l = n at *
    go_enter Tryd.func11, Tryd.ntmps11
    go_wp2
    refine wp_region_ext (by kernel_rfl) (by rfl) (by rfl) (by kernel_rfl) ?_
    repeat (first | ((first | (refine wpM_move00 Ext.refl rfl rfl rfl ?_) | (refine wpM_move01 Ext.refl rfl rfl rfl rfl ?_)); apply Exists.intro; refine ⟨?_, ?_⟩; · (go_simp; rfl)) | (first | (refine wpM_movek0 Ext.refl rfl rfl rfl ?_) | (refine wpM_movek1 Ext.refl rfl rfl rfl rfl ?_)) | ((first | (refine wpM_val0 Ext.refl rfl ?_) | (refine wpM_val1 Ext.refl rfl rfl ?_)); apply Exists.intro; refine ⟨?_, ?_⟩; · (intro a w' hR; intro h1; (first | (have e1 : _ = _ := h1) | skip); intro h2; (first | (have e2 : _ = _ := h2) | skip); go_simp; rfl)) | ((first | (refine wpM_val0 Ext.refl rfl ?_) | (refine wpM_val1 Ext.refl rfl rfl ?_)); apply Exists.intro; refine ⟨?_, ?_⟩; · (intro a w' hR; intro h1; (first | (have e1 : _ = _ := h1) | skip); go_simp; rfl)) | ((first | (refine wpM_val0 Ext.refl rfl ?_) | (refine wpM_val1 Ext.refl rfl rfl ?_)); apply Exists.intro; refine ⟨?_, ?_⟩; · (intro a w' hR; go_simp; rfl)) | ((first | (refine wpM_val0 Ext.refl rfl ?_) | (refine wpM_val1 Ext.refl rfl rfl ?_)); apply Exists.intro; refine ⟨?_, ?_⟩; · (intro a w' hR; intro h1; (first | (have e1 : _ = _ := h1) | skip); intro h2; (first | (have e2 : _ = _ := h2) | skip); intro h3; (first | (have e3 : _ = _ := h3) | skip); go_simp; rfl)) | (refine wpM_skip1 rfl ?_))
    first | (refine wpM_call0 (fun v _ => v = .bool (l.take 8 == l.drop 56)) rfl (by first | exact mono_eq | exact (fun _ _ _ ⟨n, h1, h2, h3⟩ k => ⟨n, h1, h2, h3.ext k⟩) | exact (fun _ _ _ h k => RB.ext h k) | exact (fun _ _ _ h k => OB.ext h k) | exact (fun _ _ _ h k => Rd.ext h k) | exact (fun _ _ _ h k => ownsRow_ext h k) | exact (fun _ _ _ h k => RB.extC h k) | exact (fun _ _ _ h k => FB.extC h k) | exact (fun _ _ _ h k => Rd.extC h k)) ?_ ?_) | (refine wpM_call1 (fun v _ => v = .bool (l.take 8 == l.drop 56)) rfl rfl (by first | exact mono_eq | exact (fun _ _ _ ⟨n, h1, h2, h3⟩ k => ⟨n, h1, h2, h3.ext k⟩) | exact (fun _ _ _ h k => RB.ext h k) | exact (fun _ _ _ h k => OB.ext h k) | exact (fun _ _ _ h k => Rd.ext h k) | exact (fun _ _ _ h k => ownsRow_ext h k) | exact (fun _ _ _ h k => RB.extC h k) | exact (fun _ _ _ h k => FB.extC h k) | exact (fun _ _ _ h k => Rd.extC h k)) ?_ ?_)
    · intro a w' hR h1 h2 K hK
      have e1 : _ = _ := h1
      have e2 : _ = _ := h2
      go_simp
      refine (equal_any _ _ _ _ w' (hb1.out.ext hR) (HB2.out.ext hR)).mono ?_
      rintro e w2 ⟨rfl, he⟩
      exact hK _ _ he rfl
    repeat (first | ((first | (refine wpM_move00 Ext.refl rfl rfl rfl ?_) | (refine wpM_move01 Ext.refl rfl rfl rfl rfl ?_)); apply Exists.intro; refine ⟨?_, ?_⟩; · (go_simp; rfl)) | (first | (refine wpM_movek0 Ext.refl rfl rfl rfl ?_) | (refine wpM_movek1 Ext.refl rfl rfl rfl rfl ?_)) | ((first | (refine wpM_val0 Ext.refl rfl ?_) | (refine wpM_val1 Ext.refl rfl rfl ?_)); apply Exists.intro; refine ⟨?_, ?_⟩; · (intro a w' hR; intro h1; (first | (have e1 : _ = _ := h1) | skip); intro h2; (first | (have e2 : _ = _ := h2) | skip); go_simp; rfl)) | ((first | (refine wpM_val0 Ext.refl rfl ?_) | (refine wpM_val1 Ext.refl rfl rfl ?_)); apply Exists.intro; refine ⟨?_, ?_⟩; · (intro a w' hR; intro h1; (first | (have e1 : _ = _ := h1) | skip); go_simp; rfl)) | ((first | (refine wpM_val0 Ext.refl rfl ?_) | (refine wpM_val1 Ext.refl rfl rfl ?_)); apply Exists.intro; refine ⟨?_, ?_⟩; · (intro a w' hR; go_simp; rfl)) | ((first | (refine wpM_val0 Ext.refl rfl ?_) | (refine wpM_val1 Ext.refl rfl rfl ?_)); apply Exists.intro; refine ⟨?_, ?_⟩; · (intro a w' hR; intro h1; (first | (have e1 : _ = _ := h1) | skip); intro h2; (first | (have e2 : _ = _ := h2) | skip); intro h3; (first | (have e3 : _ = _ := h3) | skip); go_simp; rfl)) | (refine wpM_skip1 rfl ?_))
    refine wpM_done ?_
    intro w1 hx
    iterate 11 (rintro _ rfl)
    dsimp only [FinV]
    go_simp
    cases hq : l.take 8 == l.drop 56 with
    | false =>
      go_wp2
      go_ret2
      exact ⟨tagV_no (HNO.out (.inr (.inl (by simpa using hq)))), hx⟩
    | true =>
      have hq : l.take 8 = l.drop 56 := by simpa using hq
      have HQ := Lib.hid hq
      clear hq
      by_cases hm : TagMay n
      · have HM := Lib.hid hm
        clear hm
        go_wp2_with (first
          | (go_at_call 23; refine (from_any _ _ _ (hb1.out.ext hx) HL8.out).mono ?_; rintro e w2 ⟨g, rfl, hN, he2, hg⟩; have HN2 := Lib.hid hN; clear hN)
          | (go_at_call 24; refine (HFX.out _ _ HN2.out).mono ?_; rintro e w3 ⟨rfl, hN3, he3⟩; clear hN3)
          | (go_at_call 17; refine (HY.out _ HM.out).mono ?_; rintro e w' ⟨rfl, rfl⟩))
        go_ret2
        exact ⟨tagV_yes (HT.out HL.out HQ.out HM.out), hx.trans (he2.andG he3 hg)⟩
      · have HM := Lib.hid hm
        clear hm
        go_wp2_with (first
          | (go_at_call 23; refine (from_any _ _ _ (hb1.out.ext hx) HL8.out).mono ?_; rintro e w2 ⟨g, rfl, hN, he2, hg⟩; have HN2 := Lib.hid hN; clear hN)
          | (go_at_call 24; refine (HFX.out _ _ HN2.out).mono ?_; rintro e w3 ⟨rfl, hN3, he3⟩; clear hN3)
          | (go_at_call 17; refine (HN.out _ HM.out).mono ?_; rintro e w' ⟨rfl, rfl⟩))
        go_ret2
        exact ⟨tagV_no (HNO.out (.inr (.inr HM.out))), hx.trans (he2.andG he3 hg)⟩
  · have hne : ((l.length : Int) != 64) = true := by simp; omega
    have HT := Lib.hid (tagL_no (.inl h64))
    clear h64 hv _hl
    go_enter Tryd.func11, Tryd.ntmps11
    go_wp2
    refine wp_region_ext (by kernel_rfl) (by rfl) (by rfl) (by kernel_rfl) ?_
    repeat (first | ((first | (refine wpM_move00 Ext.refl rfl rfl rfl ?_) | (refine wpM_move01 Ext.refl rfl rfl rfl rfl ?_)); apply Exists.intro; refine ⟨?_, ?_⟩; · (go_simp; rfl)) | (first | (refine wpM_movek0 Ext.refl rfl rfl rfl ?_) | (refine wpM_movek1 Ext.refl rfl rfl rfl rfl ?_)) | ((first | (refine wpM_val0 Ext.refl rfl ?_) | (refine wpM_val1 Ext.refl rfl rfl ?_)); apply Exists.intro; refine ⟨?_, ?_⟩; · (intro a w' hR; intro h1; (first | (have e1 : _ = _ := h1) | skip); intro h2; (first | (have e2 : _ = _ := h2) | skip); go_simp; rfl)) | ((first | (refine wpM_val0 Ext.refl rfl ?_) | (refine wpM_val1 Ext.refl rfl rfl ?_)); apply Exists.intro; refine ⟨?_, ?_⟩; · (intro a w' hR; intro h1; (first | (have e1 : _ = _ := h1) | skip); go_simp; rfl)) | ((first | (refine wpM_val0 Ext.refl rfl ?_) | (refine wpM_val1 Ext.refl rfl rfl ?_)); apply Exists.intro; refine ⟨?_, ?_⟩; · (intro a w' hR; go_simp; rfl)) | ((first | (refine wpM_val0 Ext.refl rfl ?_) | (refine wpM_val1 Ext.refl rfl rfl ?_)); apply Exists.intro; refine ⟨?_, ?_⟩; · (intro a w' hR; intro h1; (first | (have e1 : _ = _ := h1) | skip); intro h2; (first | (have e2 : _ = _ := h2) | skip); intro h3; (first | (have e3 : _ = _ := h3) | skip); go_simp; rfl)) | (refine wpM_skip1 rfl ?_))
    refine wpM_done ?_
    intro w1 hx
    iterate 11 (rintro _ rfl)
    dsimp only [FinV]
    go_simp
    go_wp2
    go_ret2
    exact ⟨tagV_no HT.out, hx⟩

theorem getL_1 {n : Nat} {l : List UInt8} (h : tagL l ≠ some n) : getL n l = (60, []) := by unfold getL; rw [if_pos h]
theorem getL_2 {n : Nat} {l : List UInt8} (h : tagL l = some n) (h2 : 43 < (l.getD 8 0).toNat) : getL n l = (20, []) := by unfold getL; rw [if_neg (by simpa using h), if_pos h2]
theorem getL_3 {n : Nat} {l : List UInt8} (h : tagL l = some n) (h2 : ¬ 43 < (l.getD 8 0).toNat) (h3 : pageP n ((l.drop 9).take (l.getD 8 0).toNat) ≠ l) : getL n l = (20, []) := by
  unfold getL; rw [if_neg (by simpa using h), if_neg h2, if_pos h3]
theorem getL_4 {n : Nat} {l : List UInt8} (h : tagL l = some n) (h2 : ¬ 43 < (l.getD 8 0).toNat) (h3 : pageP n ((l.drop 9).take (l.getD 8 0).toNat) = l) : getL n l = (0, (l.drop 9).take (l.getD 8 0).toNat) := by
  unfold getL; rw [if_neg (by simpa using h), if_neg h2, if_neg (by simpa using h3)]
theorem tagL_len {n : Nat} {l : List UInt8} (h : tagL l = some n) : l.length = 64 := by
  unfold tagL at h
  split at h
  · rename_i hc; exact hc.1
  · cases h
theorem tagL_may {n : Nat} {l : List UInt8} (h : tagL l = some n) : TagMay n := by
  unfold tagL at h
  split at h
  · rename_i hc
    obtain ⟨_, _, h1, h2⟩ := hc
    injection h with h
    rw [h] at h1 h2
    exact ⟨by omega, by omega⟩
  · cases h
def GetPost (n : Nat) (l : List UInt8) (w : World) (e : Ending) (w' : World) : Prop := ∃ u, e = .returned (.tuple #[u, .int .i64 (getL n l).1]) ∧ OB 5 w.heap.size w' u (getL n l).2 ∧ Ext w w'
theorem GetPost.of {n : Nat} {l b : List UInt8} {x : Int} {u : Value} {w w' : World} (h : getL n l = (x, b)) (hu : OB 5 w.heap.size w' u b) (he : Ext w w') : GetPost n l w (.returned (.tuple #[u, .int .i64 x])) w' := by
  unfold GetPost; rw [h]; exact ⟨u, rfl, hu, he⟩

set_option maxRecDepth 100000 in
set_option maxHeartbeats 400000 in
theorem pget_any (n : Nat) (v : Value) (l : List UInt8) (w : World) (hh : Halves w) (hv : RB w v l) (hl : l.length ≤ 1000000) :
    Calls Tryd.prog 10 #[v, .int .i64 (n : Int)] w (GetPost n l w) := by
  obtain ⟨A, c, rfl⟩ := hv.form
  have hT := ptag_any _ l w hv hl
  cases ht : tagL l with
  | none =>
    have HG := Lib.hid (@getL_1 n l (by rw [ht]; simp))
    unfold tagV at hT
    rw [ht] at hT
    have HT := Lib.hid hT
    clear hT ht hv hl hh
    go_enter Tryd.func10, Tryd.ntmps10
    go_wp2_with (go_at_call 11; refine HT.out.mono ?_; rintro e w1 ⟨rfl, he1⟩)
    go_ret2
    exact GetPost.of HG.out (OB.nilO _ _ _) he1
  | some m =>
    unfold tagV at hT
    rw [ht] at hT
    have HT := Lib.hid hT
    clear hT
    by_cases hm : m = n
    · subst hm
      have hl64 := tagL_len ht
      have hmay := tagL_may ht
      obtain ⟨b, o, rfl, hcell⟩ := hv.byteS (k := 8) (by omega)
      have hk : n8 l[8] = ((l.getD 8 0).toNat : Int) := by unfold n8; simp [hl64]
      rw [hk] at hcell
      have G2 := Lib.hid (@getL_2 m l ht)
      have G3 := Lib.hid (@getL_3 m l ht)
      have G4 := Lib.hid (@getL_4 m l ht)
      have hne : ((m : Int) != (m : Int)) = false := by simp
      have hk2 : (l.getD 8 0).toNat < 256 := (l.getD 8 0).toNat_lt
      have hcut := RB.lohi elemB hv (k := 9) (q := (l.getD 8 0).toNat)
      have HCut := Lib.hid hcut
      have HMay := Lib.hid hmay
      have HV := Lib.hid hv
      have HL := Lib.hid hl64
      have HH := Lib.hid hh
      have HC := Lib.hid (World.block_lt_of_cell? w _ hcell)
      have hc64 : (8 : Int) < (l.length : Int) := by omega
      have HCell := Lib.hid (fun (w1 : World) (he : Ext w w1) => he.cell hcell)
      clear hk ht hcut hmay hv hl64 hh hcell hl
      generalize (l.getD 8 0).toNat = k at *
      by_cases hgt : 43 < k
      · have hgt2 : (43 : Int) < (k : Int) := by omega
        have HG := Lib.hid (G2.out hgt)
        clear hgt
        go_enter Tryd.func10, Tryd.ntmps10
        go_wp2_with (go_at_call 11; refine HT.out.mono ?_; rintro e w1 ⟨rfl, he1⟩; have hcell := HCell.out w1 he1)
        go_ret2
        exact GetPost.of HG.out (OB.nilO _ _ _) he1
      · have hgt2 : ¬ (43 : Int) < (k : Int) := by omega
        obtain ⟨A', hcut, hrb⟩ := HCut.out (by rw [HL.out]; omega) 9 (9 + (k : Int)) (by rfl) (by omega)
        rw [List.drop_take, Nat.add_sub_cancel_left] at hrb
        have HRB := Lib.hid hrb
        have hlk : ((l.drop 9).take k).length = k := by rw [List.length_take, List.length_drop, HL.out]; omega
        have HLK := Lib.hid hlk
        clear hrb hlk
        have G3 := Lib.hid (G3.out hgt)
        have G4 := Lib.hid (G4.out hgt)
        have h43 := Lib.hid hgt
        clear hgt
        generalize (l.drop 9).take k = d at *
        cases hq : pageP m d == l with
        | true =>
          have HG := Lib.hid (G4.out (by simpa using hq))
          clear G2
          go_enter Tryd.func10, Tryd.ntmps10
          go_wp2_with (first
            | (go_at_call 11; refine HT.out.mono ?_; rintro e w1 ⟨rfl, he1⟩; have hcell := HCell.out w1 he1)
            | (go_at_call 8; refine (pput_any m _ d _ (HH.out.ext he1) HMay.out (HRB.out.ext he1) (by rw [HLK.out]; exact Nat.not_lt.1 h43.out)).mono ?_; rintro e w2 ⟨v2, rfl, ho2, he2⟩; have HO2 := Lib.hid ho2; clear ho2; clear hcell)
            | (go_at_call 21; refine (equal_any _ _ (pageP m d) l _ HO2.out.rb (HV.out.ext (he1.trans he2))).mono ?_; rintro e w3 ⟨rfl, he3⟩)
            | (go_at_call 22; refine (clone_any _ d _ (HRB.out.ext ((he1.trans he2).trans he3)) (by rw [HLK.out]; omega)).mono ?_; rintro e w4 ⟨v4, rfl, ho4, he4⟩))
          go_ret2
          exact GetPost.of HG.out (ho4.low ((he1.trans he2).trans he3).size) (((he1.trans he2).trans he3).trans he4)
        | false =>
          have HG := Lib.hid (G3.out (by simpa using hq))
          clear G2
          go_enter Tryd.func10, Tryd.ntmps10
          go_wp2_with (first
            | (go_at_call 11; refine HT.out.mono ?_; rintro e w1 ⟨rfl, he1⟩; have hcell := HCell.out w1 he1)
            | (go_at_call 8; refine (pput_any m _ d _ (HH.out.ext he1) HMay.out (HRB.out.ext he1) (by rw [HLK.out]; exact Nat.not_lt.1 h43.out)).mono ?_; rintro e w2 ⟨v2, rfl, ho2, he2⟩; have HO2 := Lib.hid ho2; clear ho2; clear hcell)
            | (go_at_call 21; refine (equal_any _ _ (pageP m d) l _ HO2.out.rb (HV.out.ext (he1.trans he2))).mono ?_; rintro e w3 ⟨rfl, he3⟩))
          go_ret2
          exact GetPost.of HG.out (OB.nilO _ _ _) ((he1.trans he2).trans he3)
    · have hne : ((m : Int) != (n : Int)) = true := by simp; omega
      have HG := Lib.hid (@getL_1 n l (by rw [ht]; simpa using hm))
      clear ht hv hl hh hm
      go_enter Tryd.func10, Tryd.ntmps10
      go_wp2_with (go_at_call 11; refine HT.out.mono ?_; rintro e w1 ⟨rfl, he1⟩)
      go_ret2
      exact GetPost.of HG.out (OB.nilO _ _ _) he1
end Go.Proofs.YtklnbmcfnnmliaaDoor
