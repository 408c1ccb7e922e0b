/-
  The statements' own functions of layer 2: what must come of every program.
-/
import Derived.Test.YtaiaimobdpkikaaDoorCrc
namespace Go.Proofs.YtaiaimobdpkikaaDoor
open Go.RowKit Go.Ox
attribute [local irreducible] OB RB

theorem n32_lit (c : Crc.W32) (n : Nat) (h : c.toNat = n) : n32 c = (n : Int) := by unfold n32; rw [h]

theorem live1 : openL (sealed [97, 98]) = some [97, 98] := by decide +kernel
theorem live2 : openL [1, 2, 3] = none := by decide +kernel
theorem live3 : Crc.sum [49, 50, 51, 52, 53, 54, 55, 56, 57] = 0xcbf43926#32 := by decide +kernel
theorem live4 : Crc.Tn (8 * 4) (Crc.sum [49, 50, 51, 52, 53]) ^^^ Crc.sum [54, 55, 56, 57] = 0xcbf43926#32 := by decide +kernel
theorem bytesLit (_ : World) : ([97, 98] : List UInt8).map byteV = [.int .u8 97, .int .u8 98] ∧ ([1, 2, 3] : List UInt8).map byteV = [.int .u8 1, .int .u8 2, .int .u8 3] ∧
    ([49, 50, 51, 52, 53, 54, 55, 56, 57] : List UInt8).map byteV = [.int .u8 49, .int .u8 50, .int .u8 51, .int .u8 52, .int .u8 53, .int .u8 54, .int .u8 55, .int .u8 56, .int .u8 57] ∧
    ([49, 50, 51, 52, 53] : List UInt8).map byteV = [.int .u8 49, .int .u8 50, .int .u8 51, .int .u8 52, .int .u8 53] ∧ ([54, 55, 56, 57] : List UInt8).map byteV = [.int .u8 54, .int .u8 55, .int .u8 56, .int .u8 57] := by
  refine ⟨?_, ?_, ?_, ?_, ?_⟩ <;> (unfold byteV n8; rfl)
theorem sum_is {v : Value} {l : List UInt8} {w : World} (hh : Halves w) (hb : RB w v l) (h : Crc.sum l = 0xcbf43926#32) :
    Calls Tryd.prog 12 #[v] w fun e w' => e = .returned (.int .u32 3421780262) ∧ w = w' := by
  have := sum_any v l w hh hb
  rw [h, show n32 0xcbf43926#32 = 3421780262 by unfold n32; rfl] at this
  exact this
theorem zeros_five (w : World) : Calls Tryd.prog 19 #[.int .u32 5, .int .i64 0] w fun e w' => e = .returned (.int .u32 5) ∧ w = w' := by
  have := zeros_neg 5#32 0 w (by omega)
  rw [show n32 5#32 = 5 by unfold n32; rfl] at this
  exact this
theorem join_four (w : World) : Calls Tryd.prog 18 #[.int .u32 (n32 (Crc.sum [49, 50, 51, 52, 53])), .int .u32 (n32 (Crc.sum [54, 55, 56, 57])), .int .i64 4] w fun e w' => e = .returned (.int .u32 3421780262) ∧ Ext w w' := by
  have := join_any (Crc.sum [49, 50, 51, 52, 53]) (Crc.sum [54, 55, 56, 57]) 4 w (by omega)
  rw [if_neg (by omega), live4, show n32 0xcbf43926#32 = 3421780262 by unfold n32; rfl] at this
  exact this

set_option maxRecDepth 100000 in
set_option maxHeartbeats 400000 in
theorem lives_any (w : World) (hh : Halves w) :
    Calls Tryd.prog 9 #[] w fun e w' => e = .returned (.bool true) ∧ Ext w w' := by
  have HH := Lib.hid hh
  clear hh
  go_enter Tryd.func9, Tryd.ntmps9
  have hcv := convConst
  go_wp2_with fail
  have hb := RB.litM w #[.int .u8 97, .int .u8 98] 5 [97, 98] 2 (2, 3) rfl (by omega) (bytesLit w).1.symm
  have HB := Lib.hid hb
  clear hb
  refine (seal_any _ [97, 98] _ (HH.out.ext ((Ext.refl _).alloc _)) HB.out (by decide)).mono ?_
  rintro e w1 ⟨v1, rfl, ho1, he1⟩
  obtain ⟨A1, c1, rfl⟩ := ho1.form
  have hl1 : (sealed [97, 98]).length = 6 := rfl
  have HO1 := Lib.hid ho1
  have hx1 : Ext w w1 := ((Ext.refl _).alloc _).trans he1
  clear ho1 he1
  generalize hL : sealed [97, 98] = L at *
  have HL := Lib.hid hL
  have HL1 := Lib.hid hl1
  clear hL
  rw [hl1] at HO1 ⊢
  clear hl1
  go_wp2_with fail
  refine (open_some (HH.out.ext hx1) HO1.out.rb (by rw [HL1.out]; omega) (by rw [← HL.out]; exact live1)).mono ?_
  rintro e w2 ⟨v2, rfl, ho2, he2⟩
  obtain ⟨A2, c2, rfl⟩ := ho2.form
  have HO2 := Lib.hid ho2
  have hx2 := hx1.trans he2
  clear ho2 he2
  go_wp2_with fail
  have hb3 := RB.lit w2 #[.int .u8 1, .int .u8 2, .int .u8 3] 5 [1, 2, 3] 3 rfl (by omega) (bytesLit w).2.1.symm
  have HB3 := Lib.hid hb3
  clear hb3
  refine (open_none (HH.out.ext (hx2.alloc _)) HB3.out (by decide) live2).mono ?_
  rintro e w3 ⟨rfl, he3⟩
  have hx3 : Ext w w3 := (hx2.alloc _).trans he3
  have hq : Ext w2 w3 := ((Ext.refl _).alloc _).trans he3
  have HO3 := Lib.hid (HO2.out.ext hq)
  clear he3 hq
  have hlit := bytesLit w
  have HLIT := Lib.hid hlit
  clear hlit
  go_wp2_with fail
  have hb9 := RB.litM w3 #[.int .u8 49, .int .u8 50, .int .u8 51, .int .u8 52, .int .u8 53, .int .u8 54, .int .u8 55, .int .u8 56, .int .u8 57] 5 [49, 50, 51, 52, 53, 54, 55, 56, 57] 9 (9, 10) rfl (by omega) HLIT.out.2.2.1.symm
  refine (sum_is (HH.out.ext (hx3.alloc _)) hb9 live3).mono ?_
  rintro e w4 ⟨rfl, hw4⟩
  have hx4 : Ext w3 w4 := by rw [← hw4]; exact (Ext.refl _).alloc _
  have hs4 : (convert 23 9 (.slice A2 2 c2)).run Tryd.prog w4 = .ok (.string ⟨#[97, 98]⟩) w4 := strB (HO3.out.rb.ext hx4)
  clear hb9 hw4
  go_wp2_with fail
  refine (zeros_five w4).mono ?_
  rintro e w5 ⟨rfl, rfl⟩
  go_wp2_with fail
  have hb5 := RB.litM w4 #[.int .u8 49, .int .u8 50, .int .u8 51, .int .u8 52, .int .u8 53] 5 [49, 50, 51, 52, 53] 5 (5, 6) rfl (by omega) HLIT.out.2.2.2.1.symm
  refine (sum_any _ _ _ (HH.out.ext ((hx3.trans hx4).alloc _)) hb5).mono ?_
  rintro e w6 ⟨rfl, hw6⟩
  have hx6 : Ext w4 w6 := by rw [← hw6]; exact (Ext.refl _).alloc _
  clear hb5 hw6
  go_wp2_with fail
  have hb4 := RB.litM w6 #[.int .u8 54, .int .u8 55, .int .u8 56, .int .u8 57] 5 [54, 55, 56, 57] 4 (4, 5) rfl (by omega) HLIT.out.2.2.2.2.symm
  refine (sum_any _ _ _ (HH.out.ext (((hx3.trans hx4).trans hx6).alloc _)) hb4).mono ?_
  rintro e w7 ⟨rfl, hw7⟩
  have hx7 : Ext w6 w7 := by rw [← hw7]; exact (Ext.refl _).alloc _
  clear hb4 hw7
  go_wp2_with fail
  refine (join_four w7).mono ?_
  rintro e w8 ⟨rfl, hx8⟩
  go_wp2
  go_ret
  exact ⟨rfl, (((hx3.trans hx4).trans hx6).trans hx7).trans hx8⟩

theorem open_both {v : Value} {l : List UInt8} {w : World} (hh : Halves w) (hb : RB w v l) (hl : l.length ≤ 1000000) (d : List UInt8) (code : Int) (ok : Bool)
    (h : (openL l = some d ∧ code = 0 ∧ ok = true) ∨ (openL l = none ∧ d = [] ∧ code = 20 ∧ ok = false)) :
    Calls Tryd.prog 10 #[v] w fun e w' => ∃ A c, e = .returned (.tuple #[.slice A d.length c, .int .i64 code]) ∧ RB w' (.slice A d.length c) d ∧ Ext w w' := by
  rcases h with ⟨h, rfl, rfl⟩ | ⟨h, rfl, rfl, rfl⟩
  · refine (open_some hh hb hl h).mono ?_
    rintro e w' ⟨v', rfl, ho, he⟩
    obtain ⟨A, c, rfl⟩ := ho.form
    exact ⟨A, c, rfl, ho.rb, he⟩
  · refine (open_none hh hb hl h).mono ?_
    rintro e w' ⟨rfl, he⟩
    exact ⟨none, 0, rfl, RB.nilS _, he⟩
theorem ropen_both {v : Value} {l : List UInt8} {w : World} (hb : RB w v l) (hl : l.length ≤ 1000000) (d : List UInt8) (code : Int) (ok : Bool)
    (h : (openL l = some d ∧ code = 0 ∧ ok = true) ∨ (openL l = none ∧ d = [] ∧ code = 20 ∧ ok = false)) :
    Calls Tryd.prog 11 #[v] w fun e w' => ∃ A c, e = .returned (.tuple #[.slice A d.length c, .bool ok]) ∧ RB w' (.slice A d.length c) d ∧ Ext w w' := by
  rcases h with ⟨h, rfl, rfl⟩ | ⟨h, rfl, rfl, rfl⟩
  · refine (ropen_some hb hl h).mono ?_
    rintro e w' ⟨v', rfl, ho, he⟩
    obtain ⟨A, c, rfl⟩ := ho.form
    exact ⟨A, c, rfl, ho.rb, he⟩
  · refine (ropen_none hb hl h).mono ?_
    rintro e w' ⟨rfl, he⟩
    exact ⟨none, 0, rfl, RB.nilS _, he⟩

/-- '[]byte{}', to which is appended -/
theorem own_empty (w : World) : (w.alloc (.cells #[] 5)).ownsRow w.heap.size 5 1 (.slice (some ⟨w.heap.size, 0, none⟩) 0 0) 0 [] :=
  World.ownsRow_lit w #[] 0 (Nat.le_refl _) (by unfold maxLen; omega) rfl

set_option maxRecDepth 100000 in
set_option maxHeartbeats 1000000 in
theorem crcSums_any (s : Crc.W32) (v : Value) (l : List UInt8) (w : World) (hh : Halves w) (hb : RB w v l) :
    Calls Tryd.prog 3 #[.int .u32 (n32 s), v] w fun e w' => e = .returned (.bool true) ∧ Ext w w' := by
  obtain ⟨A, c, rfl⟩ := hb.form
  have HH := Lib.hid hh
  have HB := Lib.hid hb
  clear hh hb
  by_cases hlen : 3000 < l.length
  · have hlen' : (3000 : Int) < (l.length : Int) := by omega
    have HV := Lib.hid (lives_any w HH.out)
    go_enter Tryd.func3, Tryd.ntmps3
    go_wp2_with (go_at_call 9; refine HV.out.mono ?_; rintro e w1 ⟨rfl, he⟩)
    go_ret
    exact ⟨rfl, he⟩
  · have hlen' : ¬ (3000 : Int) < (l.length : Int) := by omega
    have hl : l.length ≤ 3000 := by omega
    have HO := Lib.hid (own_empty w)
    clear hlen
    go_enter Tryd.func3, Tryd.ntmps3
    go_wp2_with (at_builtin; refine wpList_app rfl elemB _ (.tmp 14) (.tmp 15) rfl w.heap.size _ 0 [] rfl HO.out _ l.length (l.map byteV) rfl (HB.out.ext ((Ext.refl _).alloc _)).rd (one_byteV l) (by omega) (by unfold maxLen; omega) (by simp) ?_; intro v1 w1 ha)
    have ho1 : OB 5 w.heap.size w1 v1 l := OB.of0 ha.own
    have he1 : Ext w w1 := ha.ext ((Ext.refl _).alloc _) rfl HO.out
    clear ha
    obtain ⟨A1, c1, rfl⟩ := ho1.form
    have HO1 := Lib.hid ho1
    clear ho1
    obtain ⟨d, code, ok, hd⟩ : ∃ (d : List UInt8) (code : Int) (ok : Bool), (openL l = some d ∧ code = 0 ∧ ok = true) ∨ (openL l = none ∧ d = [] ∧ code = 20 ∧ ok = false) := by
      cases h : openL l with
      | none => exact ⟨[], 20, false, .inr ⟨rfl, rfl, rfl, rfl⟩⟩
      | some d => exact ⟨d, 0, true, .inl ⟨rfl, rfl, rfl⟩⟩
    have HD := Lib.hid hd
    have hcode : (code = 0 ∧ ok = true) ∨ (code = 20 ∧ ok = false) := by rcases hd with ⟨_, h1, h2⟩ | ⟨_, _, h1, h2⟩ <;> simp [h1, h2]
    have HC := Lib.hid hcode
    clear hd hcode
    refine (open_both (HH.out.ext he1) HO1.out.rb (by omega) d code ok HD.out).mono ?_
    rintro e w2 ⟨A2, c2, rfl, hb2, he2⟩
    have HB2 := Lib.hid hb2
    clear hb2
    have he12 := he1.trans he2
    go_wp2_with fail
    refine (ropen_both (HB.out.ext he12) (by omega) d code ok HD.out).mono ?_
    rintro e w3 ⟨A3, c3, rfl, hb3, he3⟩
    have HB3 := Lib.hid hb3
    clear hb3
    have he13 := he12.trans he3
    have HX := Lib.hid he13
    have HO3 := Lib.hid ((HO1.out.ext he2).ext he3)
    have HB23 := Lib.hid (HB2.out.ext he3)
    have HB0 := Lib.hid (HB.out.ext he13)
    have HH3 := Lib.hid (HH.out.ext he13)
    clear he13 he12 he1 he2 he3 HO HO1 HB2 HB HH HD
    go_wp2_with fail
    rcases HC.out with ⟨rfl, rfl⟩ | ⟨rfl, rfl⟩
    all_goals
      refine wp_region_ext (by kernel_rfl) (by rfl) (by rfl) (by kernel_rfl) ?_
      first | (refine wpM_call0 (fun v _ => v = .bool true) rfl (by first | exact mono_eq | exact (fun _ _ _ h k => RB.ext h k) | exact (fun _ _ _ h k => OB.ext h k) | exact (fun _ _ _ h k => Rd.ext h k) | exact (fun _ _ _ h k => ownsRow_ext h k) | exact (fun _ _ _ h k => RB.extC h k) | exact (fun _ _ _ h k => FB.extC h k) | exact (fun _ _ _ h k => Rd.extC h k)) ?_ ?_) | (refine wpM_call1 (fun v _ => v = .bool true) rfl rfl (by first | exact mono_eq | exact (fun _ _ _ h k => RB.ext h k) | exact (fun _ _ _ h k => OB.ext h k) | exact (fun _ _ _ h k => Rd.ext h k) | exact (fun _ _ _ h k => ownsRow_ext h k) | exact (fun _ _ _ h k => RB.extC h k) | exact (fun _ _ _ h k => FB.extC h k) | exact (fun _ _ _ h k => Rd.extC h k)) ?_ ?_)
      · intro a w' hR  K hK
        go_simp
        refine (lives_any w' (HH3.out.ext hR)).mono ?_
        rintro e w2 ⟨rfl, he⟩
        exact hK _ _ he rfl
      repeat (first | ((first | (refine wpM_move00 Ext.refl rfl rfl rfl ?_) | (refine wpM_move01 Ext.refl rfl rfl rfl rfl ?_)); apply Exists.intro; refine ⟨?_, ?_⟩; · (go_simp; rfl)) | (first | (refine wpM_movek0 Ext.refl rfl rfl rfl ?_) | (refine wpM_movek1 Ext.refl rfl rfl rfl rfl ?_)) | ((first | (refine wpM_val0 Ext.refl rfl ?_) | (refine wpM_val1 Ext.refl rfl rfl ?_)); apply Exists.intro; refine ⟨?_, ?_⟩; · (intro a w' hR; intro h1; (first | (have e1 : _ = _ := h1) | skip); intro h2; (first | (have e2 : _ = _ := h2) | skip); go_simp; rfl)) | ((first | (refine wpM_val0 Ext.refl rfl ?_) | (refine wpM_val1 Ext.refl rfl rfl ?_)); apply Exists.intro; refine ⟨?_, ?_⟩; · (intro a w' hR; intro h1; (first | (have e1 : _ = _ := h1) | skip); go_simp; rfl)) | ((first | (refine wpM_val0 Ext.refl rfl ?_) | (refine wpM_val1 Ext.refl rfl rfl ?_)); apply Exists.intro; refine ⟨?_, ?_⟩; · (intro a w' hR; go_simp; rfl)) | ((first | (refine wpM_val0 Ext.refl rfl ?_) | (refine wpM_val1 Ext.refl rfl rfl ?_)); apply Exists.intro; refine ⟨?_, ?_⟩; · (intro a w' hR; intro h1; (first | (have e1 : _ = _ := h1) | skip); intro h2; (first | (have e2 : _ = _ := h2) | skip); intro h3; (first | (have e3 : _ = _ := h3) | skip); go_simp; rfl)) | (refine wpM_skip1 rfl ?_))
      first | (refine wpM_call0 (fun v _ => v = .int .u32 (n32 (Crc.sum l))) rfl (by first | exact mono_eq | exact (fun _ _ _ h k => RB.ext h k) | exact (fun _ _ _ h k => OB.ext h k) | exact (fun _ _ _ h k => Rd.ext h k) | exact (fun _ _ _ h k => ownsRow_ext h k) | exact (fun _ _ _ h k => RB.extC h k) | exact (fun _ _ _ h k => FB.extC h k) | exact (fun _ _ _ h k => Rd.extC h k)) ?_ ?_) | (refine wpM_call1 (fun v _ => v = .int .u32 (n32 (Crc.sum l))) rfl rfl (by first | exact mono_eq | exact (fun _ _ _ h k => RB.ext h k) | exact (fun _ _ _ h k => OB.ext h k) | exact (fun _ _ _ h k => Rd.ext h k) | exact (fun _ _ _ h k => ownsRow_ext h k) | exact (fun _ _ _ h k => RB.extC h k) | exact (fun _ _ _ h k => FB.extC h k) | exact (fun _ _ _ h k => Rd.extC h k)) ?_ ?_)
      · intro a w' hR h1 K hK
        have e1 : _ = _ := h1
        go_simp
        refine (sum_any _ l w' (HH3.out.ext hR) (HO3.out.rb.ext hR)).mono ?_
        rintro e w2 ⟨rfl, rfl⟩
        exact hK _ _ (Ext.refl _) rfl
      repeat (first | ((first | (refine wpM_move00 Ext.refl rfl rfl rfl ?_) | (refine wpM_move01 Ext.refl rfl rfl rfl rfl ?_)); apply Exists.intro; refine ⟨?_, ?_⟩; · (go_simp; rfl)) | (first | (refine wpM_movek0 Ext.refl rfl rfl rfl ?_) | (refine wpM_movek1 Ext.refl rfl rfl rfl rfl ?_)) | ((first | (refine wpM_val0 Ext.refl rfl ?_) | (refine wpM_val1 Ext.refl rfl rfl ?_)); apply Exists.intro; refine ⟨?_, ?_⟩; · (intro a w' hR; intro h1; (first | (have e1 : _ = _ := h1) | skip); intro h2; (first | (have e2 : _ = _ := h2) | skip); go_simp; rfl)) | ((first | (refine wpM_val0 Ext.refl rfl ?_) | (refine wpM_val1 Ext.refl rfl rfl ?_)); apply Exists.intro; refine ⟨?_, ?_⟩; · (intro a w' hR; intro h1; (first | (have e1 : _ = _ := h1) | skip); go_simp; rfl)) | ((first | (refine wpM_val0 Ext.refl rfl ?_) | (refine wpM_val1 Ext.refl rfl rfl ?_)); apply Exists.intro; refine ⟨?_, ?_⟩; · (intro a w' hR; go_simp; rfl)) | ((first | (refine wpM_val0 Ext.refl rfl ?_) | (refine wpM_val1 Ext.refl rfl rfl ?_)); apply Exists.intro; refine ⟨?_, ?_⟩; · (intro a w' hR; intro h1; (first | (have e1 : _ = _ := h1) | skip); intro h2; (first | (have e2 : _ = _ := h2) | skip); intro h3; (first | (have e3 : _ = _ := h3) | skip); go_simp; rfl)) | (refine wpM_skip1 rfl ?_))
      first | (refine wpM_call0 (fun v _ => v = .int .u32 (n32 (Crc.sum l))) rfl (by first | exact mono_eq | exact (fun _ _ _ h k => RB.ext h k) | exact (fun _ _ _ h k => OB.ext h k) | exact (fun _ _ _ h k => Rd.ext h k) | exact (fun _ _ _ h k => ownsRow_ext h k) | exact (fun _ _ _ h k => RB.extC h k) | exact (fun _ _ _ h k => FB.extC h k) | exact (fun _ _ _ h k => Rd.extC h k)) ?_ ?_) | (refine wpM_call1 (fun v _ => v = .int .u32 (n32 (Crc.sum l))) rfl rfl (by first | exact mono_eq | exact (fun _ _ _ h k => RB.ext h k) | exact (fun _ _ _ h k => OB.ext h k) | exact (fun _ _ _ h k => Rd.ext h k) | exact (fun _ _ _ h k => ownsRow_ext h k) | exact (fun _ _ _ h k => RB.extC h k) | exact (fun _ _ _ h k => FB.extC h k) | exact (fun _ _ _ h k => Rd.extC h k)) ?_ ?_)
      · intro a w' hR h1 K hK
        have e1 : _ = _ := h1
        go_simp
        refine (rsum_any _ l w' (HB0.out.ext hR)).mono ?_
        rintro e w2 ⟨rfl, rfl⟩
        exact hK _ _ (Ext.refl _) rfl
      repeat (first | ((first | (refine wpM_move00 Ext.refl rfl rfl rfl ?_) | (refine wpM_move01 Ext.refl rfl rfl rfl rfl ?_)); apply Exists.intro; refine ⟨?_, ?_⟩; · (go_simp; rfl)) | (first | (refine wpM_movek0 Ext.refl rfl rfl rfl ?_) | (refine wpM_movek1 Ext.refl rfl rfl rfl rfl ?_)) | ((first | (refine wpM_val0 Ext.refl rfl ?_) | (refine wpM_val1 Ext.refl rfl rfl ?_)); apply Exists.intro; refine ⟨?_, ?_⟩; · (intro a w' hR; intro h1; (first | (have e1 : _ = _ := h1) | skip); intro h2; (first | (have e2 : _ = _ := h2) | skip); go_simp; rfl)) | ((first | (refine wpM_val0 Ext.refl rfl ?_) | (refine wpM_val1 Ext.refl rfl rfl ?_)); apply Exists.intro; refine ⟨?_, ?_⟩; · (intro a w' hR; intro h1; (first | (have e1 : _ = _ := h1) | skip); go_simp; rfl)) | ((first | (refine wpM_val0 Ext.refl rfl ?_) | (refine wpM_val1 Ext.refl rfl rfl ?_)); apply Exists.intro; refine ⟨?_, ?_⟩; · (intro a w' hR; go_simp; rfl)) | ((first | (refine wpM_val0 Ext.refl rfl ?_) | (refine wpM_val1 Ext.refl rfl rfl ?_)); apply Exists.intro; refine ⟨?_, ?_⟩; · (intro a w' hR; intro h1; (first | (have e1 : _ = _ := h1) | skip); intro h2; (first | (have e2 : _ = _ := h2) | skip); intro h3; (first | (have e3 : _ = _ := h3) | skip); go_simp; rfl)) | (refine wpM_skip1 rfl ?_))
      first | (refine wpM_call0 (fun v _ => v = .int .u32 (n32 (Crc.more s l))) rfl (by first | exact mono_eq | exact (fun _ _ _ h k => RB.ext h k) | exact (fun _ _ _ h k => OB.ext h k) | exact (fun _ _ _ h k => Rd.ext h k) | exact (fun _ _ _ h k => ownsRow_ext h k) | exact (fun _ _ _ h k => RB.extC h k) | exact (fun _ _ _ h k => FB.extC h k) | exact (fun _ _ _ h k => Rd.extC h k)) ?_ ?_) | (refine wpM_call1 (fun v _ => v = .int .u32 (n32 (Crc.more s l))) rfl rfl (by first | exact mono_eq | exact (fun _ _ _ h k => RB.ext h k) | exact (fun _ _ _ h k => OB.ext h k) | exact (fun _ _ _ h k => Rd.ext h k) | exact (fun _ _ _ h k => ownsRow_ext h k) | exact (fun _ _ _ h k => RB.extC h k) | exact (fun _ _ _ h k => FB.extC h k) | exact (fun _ _ _ h k => Rd.extC h k)) ?_ ?_)
      · intro a w' hR h1 h2 K hK
        have e1 : _ = _ := h1
        have e2 : _ = _ := h2
        go_simp
        refine (more_any s _ l w' (HH3.out.ext hR) (HO3.out.rb.ext hR)).mono ?_
        rintro e w2 ⟨rfl, rfl⟩
        exact hK _ _ (Ext.refl _) rfl
      repeat (first | ((first | (refine wpM_move00 Ext.refl rfl rfl rfl ?_) | (refine wpM_move01 Ext.refl rfl rfl rfl rfl ?_)); apply Exists.intro; refine ⟨?_, ?_⟩; · (go_simp; rfl)) | (first | (refine wpM_movek0 Ext.refl rfl rfl rfl ?_) | (refine wpM_movek1 Ext.refl rfl rfl rfl rfl ?_)) | ((first | (refine wpM_val0 Ext.refl rfl ?_) | (refine wpM_val1 Ext.refl rfl rfl ?_)); apply Exists.intro; refine ⟨?_, ?_⟩; · (intro a w' hR; intro h1; (first | (have e1 : _ = _ := h1) | skip); intro h2; (first | (have e2 : _ = _ := h2) | skip); go_simp; rfl)) | ((first | (refine wpM_val0 Ext.refl rfl ?_) | (refine wpM_val1 Ext.refl rfl rfl ?_)); apply Exists.intro; refine ⟨?_, ?_⟩; · (intro a w' hR; intro h1; (first | (have e1 : _ = _ := h1) | skip); go_simp; rfl)) | ((first | (refine wpM_val0 Ext.refl rfl ?_) | (refine wpM_val1 Ext.refl rfl rfl ?_)); apply Exists.intro; refine ⟨?_, ?_⟩; · (intro a w' hR; go_simp; rfl)) | ((first | (refine wpM_val0 Ext.refl rfl ?_) | (refine wpM_val1 Ext.refl rfl rfl ?_)); apply Exists.intro; refine ⟨?_, ?_⟩; · (intro a w' hR; intro h1; (first | (have e1 : _ = _ := h1) | skip); intro h2; (first | (have e2 : _ = _ := h2) | skip); intro h3; (first | (have e3 : _ = _ := h3) | skip); go_simp; rfl)) | (refine wpM_skip1 rfl ?_))
      first | (refine wpM_call0 (fun v _ => v = .int .u32 (n32 (Crc.more s l))) rfl (by first | exact mono_eq | exact (fun _ _ _ h k => RB.ext h k) | exact (fun _ _ _ h k => OB.ext h k) | exact (fun _ _ _ h k => Rd.ext h k) | exact (fun _ _ _ h k => ownsRow_ext h k) | exact (fun _ _ _ h k => RB.extC h k) | exact (fun _ _ _ h k => FB.extC h k) | exact (fun _ _ _ h k => Rd.extC h k)) ?_ ?_) | (refine wpM_call1 (fun v _ => v = .int .u32 (n32 (Crc.more s l))) rfl rfl (by first | exact mono_eq | exact (fun _ _ _ h k => RB.ext h k) | exact (fun _ _ _ h k => OB.ext h k) | exact (fun _ _ _ h k => Rd.ext h k) | exact (fun _ _ _ h k => ownsRow_ext h k) | exact (fun _ _ _ h k => RB.extC h k) | exact (fun _ _ _ h k => FB.extC h k) | exact (fun _ _ _ h k => Rd.extC h k)) ?_ ?_)
      · intro a w' hR h1 h2 K hK
        have e1 : _ = _ := h1
        have e2 : _ = _ := h2
        go_simp
        refine (rmore_any s _ l w' (HB0.out.ext hR)).mono ?_
        rintro e w2 ⟨rfl, rfl⟩
        exact hK _ _ (Ext.refl _) rfl
      repeat (first | ((first | (refine wpM_move00 Ext.refl rfl rfl rfl ?_) | (refine wpM_move01 Ext.refl rfl rfl rfl rfl ?_)); apply Exists.intro; refine ⟨?_, ?_⟩; · (go_simp; rfl)) | (first | (refine wpM_movek0 Ext.refl rfl rfl rfl ?_) | (refine wpM_movek1 Ext.refl rfl rfl rfl rfl ?_)) | ((first | (refine wpM_val0 Ext.refl rfl ?_) | (refine wpM_val1 Ext.refl rfl rfl ?_)); apply Exists.intro; refine ⟨?_, ?_⟩; · (intro a w' hR; intro h1; (first | (have e1 : _ = _ := h1) | skip); intro h2; (first | (have e2 : _ = _ := h2) | skip); go_simp; rfl)) | ((first | (refine wpM_val0 Ext.refl rfl ?_) | (refine wpM_val1 Ext.refl rfl rfl ?_)); apply Exists.intro; refine ⟨?_, ?_⟩; · (intro a w' hR; intro h1; (first | (have e1 : _ = _ := h1) | skip); go_simp; rfl)) | ((first | (refine wpM_val0 Ext.refl rfl ?_) | (refine wpM_val1 Ext.refl rfl rfl ?_)); apply Exists.intro; refine ⟨?_, ?_⟩; · (intro a w' hR; go_simp; rfl)) | ((first | (refine wpM_val0 Ext.refl rfl ?_) | (refine wpM_val1 Ext.refl rfl rfl ?_)); apply Exists.intro; refine ⟨?_, ?_⟩; · (intro a w' hR; intro h1; (first | (have e1 : _ = _ := h1) | skip); intro h2; (first | (have e2 : _ = _ := h2) | skip); intro h3; (first | (have e3 : _ = _ := h3) | skip); go_simp; rfl)) | (refine wpM_skip1 rfl ?_))
      first | (refine wpM_call0 (fun v w2 => OB 5 w3.heap.size w2 v (sealed l)) rfl (by first | exact mono_eq | exact (fun _ _ _ h k => RB.ext h k) | exact (fun _ _ _ h k => OB.ext h k) | exact (fun _ _ _ h k => Rd.ext h k) | exact (fun _ _ _ h k => ownsRow_ext h k) | exact (fun _ _ _ h k => RB.extC h k) | exact (fun _ _ _ h k => FB.extC h k) | exact (fun _ _ _ h k => Rd.extC h k)) ?_ ?_) | (refine wpM_call1 (fun v w2 => OB 5 w3.heap.size w2 v (sealed l)) rfl rfl (by first | exact mono_eq | exact (fun _ _ _ h k => RB.ext h k) | exact (fun _ _ _ h k => OB.ext h k) | exact (fun _ _ _ h k => Rd.ext h k) | exact (fun _ _ _ h k => ownsRow_ext h k) | exact (fun _ _ _ h k => RB.extC h k) | exact (fun _ _ _ h k => FB.extC h k) | exact (fun _ _ _ h k => Rd.extC h k)) ?_ ?_)
      · intro a w' hR h1 K hK
        have e1 : _ = _ := h1
        go_simp
        refine (seal_any _ l w' (HH3.out.ext hR) (HO3.out.rb.ext hR) (by omega)).mono ?_
        rintro e w2 ⟨v, rfl, ho, he⟩
        exact hK _ _ he (ho.low hR.size)
      (first | (refine wpM_val0 Ext.refl rfl ?_) | (refine wpM_val1 Ext.refl rfl rfl ?_)); apply Exists.intro; refine ⟨?_, ?_⟩
      · intro a w' hR h1
        obtain ⟨x, ex, fx⟩ : ∃ x, a.tmps.getD 46 undef = x ∧ (fun v w2 => OB 5 w3.heap.size w2 v (sealed l)) x w' := ⟨_, rfl, h1⟩
        have hs := strB (fx.rb)
        go_simp
        rfl
      repeat (first | ((first | (refine wpM_move00 Ext.refl rfl rfl rfl ?_) | (refine wpM_move01 Ext.refl rfl rfl rfl rfl ?_)); apply Exists.intro; refine ⟨?_, ?_⟩; · (go_simp; rfl)) | (first | (refine wpM_movek0 Ext.refl rfl rfl rfl ?_) | (refine wpM_movek1 Ext.refl rfl rfl rfl rfl ?_)) | ((first | (refine wpM_val0 Ext.refl rfl ?_) | (refine wpM_val1 Ext.refl rfl rfl ?_)); apply Exists.intro; refine ⟨?_, ?_⟩; · (intro a w' hR; intro h1; (first | (have e1 : _ = _ := h1) | skip); intro h2; (first | (have e2 : _ = _ := h2) | skip); go_simp; rfl)) | ((first | (refine wpM_val0 Ext.refl rfl ?_) | (refine wpM_val1 Ext.refl rfl rfl ?_)); apply Exists.intro; refine ⟨?_, ?_⟩; · (intro a w' hR; intro h1; (first | (have e1 : _ = _ := h1) | skip); go_simp; rfl)) | ((first | (refine wpM_val0 Ext.refl rfl ?_) | (refine wpM_val1 Ext.refl rfl rfl ?_)); apply Exists.intro; refine ⟨?_, ?_⟩; · (intro a w' hR; go_simp; rfl)) | ((first | (refine wpM_val0 Ext.refl rfl ?_) | (refine wpM_val1 Ext.refl rfl rfl ?_)); apply Exists.intro; refine ⟨?_, ?_⟩; · (intro a w' hR; intro h1; (first | (have e1 : _ = _ := h1) | skip); intro h2; (first | (have e2 : _ = _ := h2) | skip); intro h3; (first | (have e3 : _ = _ := h3) | skip); go_simp; rfl)) | (refine wpM_skip1 rfl ?_))
      first | (refine wpM_call0 (fun v w2 => OB 5 w3.heap.size w2 v (sealed l)) rfl (by first | exact mono_eq | exact (fun _ _ _ h k => RB.ext h k) | exact (fun _ _ _ h k => OB.ext h k) | exact (fun _ _ _ h k => Rd.ext h k) | exact (fun _ _ _ h k => ownsRow_ext h k) | exact (fun _ _ _ h k => RB.extC h k) | exact (fun _ _ _ h k => FB.extC h k) | exact (fun _ _ _ h k => Rd.extC h k)) ?_ ?_) | (refine wpM_call1 (fun v w2 => OB 5 w3.heap.size w2 v (sealed l)) rfl rfl (by first | exact mono_eq | exact (fun _ _ _ h k => RB.ext h k) | exact (fun _ _ _ h k => OB.ext h k) | exact (fun _ _ _ h k => Rd.ext h k) | exact (fun _ _ _ h k => ownsRow_ext h k) | exact (fun _ _ _ h k => RB.extC h k) | exact (fun _ _ _ h k => FB.extC h k) | exact (fun _ _ _ h k => Rd.extC h k)) ?_ ?_)
      · intro a w' hR h1 K hK
        have e1 : _ = _ := h1
        go_simp
        refine (rseal_any _ l w' (HB0.out.ext hR) (by omega)).mono ?_
        rintro e w2 ⟨v, rfl, ho, he⟩
        exact hK _ _ he (ho.low hR.size)
      (first | (refine wpM_val0 Ext.refl rfl ?_) | (refine wpM_val1 Ext.refl rfl rfl ?_)); apply Exists.intro; refine ⟨?_, ?_⟩
      · intro a w' hR h1
        obtain ⟨x, ex, fx⟩ : ∃ x, a.tmps.getD 49 undef = x ∧ (fun v w2 => OB 5 w3.heap.size w2 v (sealed l)) x w' := ⟨_, rfl, h1⟩
        have hs := strB (fx.rb)
        go_simp
        rfl
      repeat (first | ((first | (refine wpM_move00 Ext.refl rfl rfl rfl ?_) | (refine wpM_move01 Ext.refl rfl rfl rfl rfl ?_)); apply Exists.intro; refine ⟨?_, ?_⟩; · (go_simp; rfl)) | (first | (refine wpM_movek0 Ext.refl rfl rfl rfl ?_) | (refine wpM_movek1 Ext.refl rfl rfl rfl rfl ?_)) | ((first | (refine wpM_val0 Ext.refl rfl ?_) | (refine wpM_val1 Ext.refl rfl rfl ?_)); apply Exists.intro; refine ⟨?_, ?_⟩; · (intro a w' hR; intro h1; (first | (have e1 : _ = _ := h1) | skip); intro h2; (first | (have e2 : _ = _ := h2) | skip); go_simp; rfl)) | ((first | (refine wpM_val0 Ext.refl rfl ?_) | (refine wpM_val1 Ext.refl rfl rfl ?_)); apply Exists.intro; refine ⟨?_, ?_⟩; · (intro a w' hR; intro h1; (first | (have e1 : _ = _ := h1) | skip); go_simp; rfl)) | ((first | (refine wpM_val0 Ext.refl rfl ?_) | (refine wpM_val1 Ext.refl rfl rfl ?_)); apply Exists.intro; refine ⟨?_, ?_⟩; · (intro a w' hR; go_simp; rfl)) | ((first | (refine wpM_val0 Ext.refl rfl ?_) | (refine wpM_val1 Ext.refl rfl rfl ?_)); apply Exists.intro; refine ⟨?_, ?_⟩; · (intro a w' hR; intro h1; (first | (have e1 : _ = _ := h1) | skip); intro h2; (first | (have e2 : _ = _ := h2) | skip); intro h3; (first | (have e3 : _ = _ := h3) | skip); go_simp; rfl)) | (refine wpM_skip1 rfl ?_))
      (first | (refine wpM_val0 Ext.refl rfl ?_) | (refine wpM_val1 Ext.refl rfl rfl ?_)); apply Exists.intro; refine ⟨?_, ?_⟩
      · intro a w' hR h1
        have e1 : _ = _ := h1
        have hs := strB (HB23.out.ext hR)
        go_simp
        rfl
      repeat (first | ((first | (refine wpM_move00 Ext.refl rfl rfl rfl ?_) | (refine wpM_move01 Ext.refl rfl rfl rfl rfl ?_)); apply Exists.intro; refine ⟨?_, ?_⟩; · (go_simp; rfl)) | (first | (refine wpM_movek0 Ext.refl rfl rfl rfl ?_) | (refine wpM_movek1 Ext.refl rfl rfl rfl rfl ?_)) | ((first | (refine wpM_val0 Ext.refl rfl ?_) | (refine wpM_val1 Ext.refl rfl rfl ?_)); apply Exists.intro; refine ⟨?_, ?_⟩; · (intro a w' hR; intro h1; (first | (have e1 : _ = _ := h1) | skip); intro h2; (first | (have e2 : _ = _ := h2) | skip); go_simp; rfl)) | ((first | (refine wpM_val0 Ext.refl rfl ?_) | (refine wpM_val1 Ext.refl rfl rfl ?_)); apply Exists.intro; refine ⟨?_, ?_⟩; · (intro a w' hR; intro h1; (first | (have e1 : _ = _ := h1) | skip); go_simp; rfl)) | ((first | (refine wpM_val0 Ext.refl rfl ?_) | (refine wpM_val1 Ext.refl rfl rfl ?_)); apply Exists.intro; refine ⟨?_, ?_⟩; · (intro a w' hR; go_simp; rfl)) | ((first | (refine wpM_val0 Ext.refl rfl ?_) | (refine wpM_val1 Ext.refl rfl rfl ?_)); apply Exists.intro; refine ⟨?_, ?_⟩; · (intro a w' hR; intro h1; (first | (have e1 : _ = _ := h1) | skip); intro h2; (first | (have e2 : _ = _ := h2) | skip); intro h3; (first | (have e3 : _ = _ := h3) | skip); go_simp; rfl)) | (refine wpM_skip1 rfl ?_))
      (first | (refine wpM_val0 Ext.refl rfl ?_) | (refine wpM_val1 Ext.refl rfl rfl ?_)); apply Exists.intro; refine ⟨?_, ?_⟩
      · intro a w' hR h1
        have e1 : _ = _ := h1
        have hs := strB (HB3.out.ext hR)
        go_simp
        rfl
      repeat (first | ((first | (refine wpM_move00 Ext.refl rfl rfl rfl ?_) | (refine wpM_move01 Ext.refl rfl rfl rfl rfl ?_)); apply Exists.intro; refine ⟨?_, ?_⟩; · (go_simp; rfl)) | (first | (refine wpM_movek0 Ext.refl rfl rfl rfl ?_) | (refine wpM_movek1 Ext.refl rfl rfl rfl rfl ?_)) | ((first | (refine wpM_val0 Ext.refl rfl ?_) | (refine wpM_val1 Ext.refl rfl rfl ?_)); apply Exists.intro; refine ⟨?_, ?_⟩; · (intro a w' hR; intro h1; (first | (have e1 : _ = _ := h1) | skip); intro h2; (first | (have e2 : _ = _ := h2) | skip); go_simp; rfl)) | ((first | (refine wpM_val0 Ext.refl rfl ?_) | (refine wpM_val1 Ext.refl rfl rfl ?_)); apply Exists.intro; refine ⟨?_, ?_⟩; · (intro a w' hR; intro h1; (first | (have e1 : _ = _ := h1) | skip); go_simp; rfl)) | ((first | (refine wpM_val0 Ext.refl rfl ?_) | (refine wpM_val1 Ext.refl rfl rfl ?_)); apply Exists.intro; refine ⟨?_, ?_⟩; · (intro a w' hR; go_simp; rfl)) | ((first | (refine wpM_val0 Ext.refl rfl ?_) | (refine wpM_val1 Ext.refl rfl rfl ?_)); apply Exists.intro; refine ⟨?_, ?_⟩; · (intro a w' hR; intro h1; (first | (have e1 : _ = _ := h1) | skip); intro h2; (first | (have e2 : _ = _ := h2) | skip); intro h3; (first | (have e3 : _ = _ := h3) | skip); go_simp; rfl)) | (refine wpM_skip1 rfl ?_))
      (first | (refine wpM_val0 Ext.refl rfl ?_) | (refine wpM_val1 Ext.refl rfl rfl ?_)); apply Exists.intro; refine ⟨?_, ?_⟩
      · intro a w' hR h1
        have e1 : _ = _ := h1
        have hs := strB (HO3.out.rb.ext hR)
        go_simp
        rfl
      repeat (first | ((first | (refine wpM_move00 Ext.refl rfl rfl rfl ?_) | (refine wpM_move01 Ext.refl rfl rfl rfl rfl ?_)); apply Exists.intro; refine ⟨?_, ?_⟩; · (go_simp; rfl)) | (first | (refine wpM_movek0 Ext.refl rfl rfl rfl ?_) | (refine wpM_movek1 Ext.refl rfl rfl rfl rfl ?_)) | ((first | (refine wpM_val0 Ext.refl rfl ?_) | (refine wpM_val1 Ext.refl rfl rfl ?_)); apply Exists.intro; refine ⟨?_, ?_⟩; · (intro a w' hR; intro h1; (first | (have e1 : _ = _ := h1) | skip); intro h2; (first | (have e2 : _ = _ := h2) | skip); go_simp; rfl)) | ((first | (refine wpM_val0 Ext.refl rfl ?_) | (refine wpM_val1 Ext.refl rfl rfl ?_)); apply Exists.intro; refine ⟨?_, ?_⟩; · (intro a w' hR; intro h1; (first | (have e1 : _ = _ := h1) | skip); go_simp; rfl)) | ((first | (refine wpM_val0 Ext.refl rfl ?_) | (refine wpM_val1 Ext.refl rfl rfl ?_)); apply Exists.intro; refine ⟨?_, ?_⟩; · (intro a w' hR; go_simp; rfl)) | ((first | (refine wpM_val0 Ext.refl rfl ?_) | (refine wpM_val1 Ext.refl rfl rfl ?_)); apply Exists.intro; refine ⟨?_, ?_⟩; · (intro a w' hR; intro h1; (first | (have e1 : _ = _ := h1) | skip); intro h2; (first | (have e2 : _ = _ := h2) | skip); intro h3; (first | (have e3 : _ = _ := h3) | skip); go_simp; rfl)) | (refine wpM_skip1 rfl ?_))
      (first | (refine wpM_val0 Ext.refl rfl ?_) | (refine wpM_val1 Ext.refl rfl rfl ?_)); apply Exists.intro; refine ⟨?_, ?_⟩
      · intro a w' hR h1
        have e1 : _ = _ := h1
        have hs := strB (HB0.out.ext hR)
        go_simp
        rfl
      repeat (first | ((first | (refine wpM_move00 Ext.refl rfl rfl rfl ?_) | (refine wpM_move01 Ext.refl rfl rfl rfl rfl ?_)); apply Exists.intro; refine ⟨?_, ?_⟩; · (go_simp; rfl)) | (first | (refine wpM_movek0 Ext.refl rfl rfl rfl ?_) | (refine wpM_movek1 Ext.refl rfl rfl rfl rfl ?_)) | ((first | (refine wpM_val0 Ext.refl rfl ?_) | (refine wpM_val1 Ext.refl rfl rfl ?_)); apply Exists.intro; refine ⟨?_, ?_⟩; · (intro a w' hR; intro h1; (first | (have e1 : _ = _ := h1) | skip); intro h2; (first | (have e2 : _ = _ := h2) | skip); go_simp; rfl)) | ((first | (refine wpM_val0 Ext.refl rfl ?_) | (refine wpM_val1 Ext.refl rfl rfl ?_)); apply Exists.intro; refine ⟨?_, ?_⟩; · (intro a w' hR; intro h1; (first | (have e1 : _ = _ := h1) | skip); go_simp; rfl)) | ((first | (refine wpM_val0 Ext.refl rfl ?_) | (refine wpM_val1 Ext.refl rfl rfl ?_)); apply Exists.intro; refine ⟨?_, ?_⟩; · (intro a w' hR; go_simp; rfl)) | ((first | (refine wpM_val0 Ext.refl rfl ?_) | (refine wpM_val1 Ext.refl rfl rfl ?_)); apply Exists.intro; refine ⟨?_, ?_⟩; · (intro a w' hR; intro h1; (first | (have e1 : _ = _ := h1) | skip); intro h2; (first | (have e2 : _ = _ := h2) | skip); intro h3; (first | (have e3 : _ = _ := h3) | skip); go_simp; rfl)) | (refine wpM_skip1 rfl ?_))
      refine wpM_done ?_
      intro w4 hx
      iterate 53 (intro _ hz; clear hz)
      iterate 1 (rintro _ rfl)
      dsimp only [FinV]
      go_simp
      go_wp2
      go_ret
      exact ⟨rfl, HX.out.trans hx⟩

/-! ### for the rows -/
theorem gTab : Tryd.prog.globalNamed "oxbow/crc.halves" = some 0 := by kernel_rfl
theorem gTabType : (Tryd.prog.globals[0]?).map (·.type) = some 44 := by kernel_rfl
theorem cells16 : Tryd.prog.cellsOf 44 = 16 := by kernel_rfl
theorem cells1 : Tryd.prog.cellsOf 22 = 1 := by kernel_rfl
def halvesL : List Int := [0, 498536548, 997073096, 651767980, 1994146192, 1802195444, 1303535960, 1342533948, 3988292384, 4027552580, 3604390888, 3412177804, 2607071920, 2262029012, 2685067896, 3183342108]
theorem halvesL_at : ∀ i, i < 16 → halvesL.getD i 0 = ((Crc.Tn 4 (BitVec.ofNat 32 i)).toNat : Int) := by decide +kernel
theorem halves_of {w : World} (h : ∀ i, i < 16 → w.cell? ⟨0, i, none⟩ = some (.int .u32 (halvesL.getD i 0))) : Halves w := fun c => by
  have hlt := and15_lt c
  have hlo := n32_lo (c &&& 15#32)
  have hi : (n32 (c &&& 15#32)).toNat < 16 := by omega
  rw [h _ hi, halvesL_at _ hi]
  congr 2
  have : (n32 (c &&& 15#32)).toNat = (c &&& 15#32).toNat := by unfold n32; omega
  rw [this, BitVec.ofNat_toNat, BitVec.setWidth_eq]
  unfold n32; rfl
theorem u32_of (x : Int) (h : 0 ≤ x ∧ x ≤ 4294967295) : n32 (BitVec.ofNat 32 x.toNat) = x := by
  unfold n32
  rw [BitVec.toNat_ofNat, Nat.mod_eq_of_lt (by omega)]; omega

theorem crcSums_law (W : World) (hh : Halves W) (x0 : Int) (b0 : 0 ≤ x0 ∧ x0 ≤ 4294967295) (v1 : Value) (x1 : List UInt8) (b1 : RB W v1 x1) :
    Calls Tryd.prog 3 #[.int .u32 x0, v1] W fun e w' => e = .returned (.bool true) ∧ Ext W w' := by
  have := crcSums_any (BitVec.ofNat 32 x0.toNat) v1 x1 W hh b1
  rwa [u32_of x0 b0] at this
end Go.Proofs.YtaiaimobdpkikaaDoor
