/-
  The statements' own functions of layer 6: what must come of every program.
-/
import Derived.Test.YtklnbmcfnnmliaaDoorPage4
import Derived.Test.YtklnbmcfnnmliaaDoorCrcLaws
namespace Go.Proofs.YtklnbmcfnnmliaaDoor
open Go.RowKit Go.Ox
attribute [local irreducible] OB RB

theorem pget_e (n : Nat) (v : Value) (l : List UInt8) (x : Int) (b : List UInt8) (w : World) (hh : Halves w) (hv : RB w v l) (hl : l.length ≤ 1000000) (hg : getL n l = (x, b)) :
    Calls Tryd.prog 10 #[v, .int .i64 (n : Int)] w fun e w' => ∃ u, e = .returned (.tuple #[u, .int .i64 x]) ∧ OB 5 w.heap.size w' u b ∧ Ext w w' := by
  refine (pget_any n v l w hh hv hl).mono ?_
  rintro e w' ⟨u, he, hu, hx⟩
  rw [hg] at he hu
  exact ⟨u, he, hu, hx⟩
theorem ptag_p (n : Nat) (v : Value) (b : List UInt8) (w : World) (hn : TagMay n) (hb : b.length ≤ 43) (hv : RB w v (pageP n b)) :
    Calls Tryd.prog 11 #[v] w fun e w' => e = .returned (.tuple #[.int .i64 (n : Int), .bool true]) ∧ Ext w w' := by
  have := ptag_any v (pageP n b) w hv (by rw [pageP_len n hb]; decide)
  unfold tagV at this
  rw [tagL_pageP hn hb] at this
  exact this
theorem may_7 : TagMay ((7 : Nat) : Int) := ⟨by decide, by decide⟩
theorem live_bytes : (#[.int .u8 97, .int .u8 98] : Array Value).toList = ([97, 98] : List UInt8).map byteV := by unfold byteV n8; rfl

set_option maxRecDepth 100000 in
set_option maxHeartbeats 1000000 in
theorem plives_any (w : World) (hh : Halves w) :
    Calls Tryd.prog 7 #[] w fun e w' => e = .returned (.bool true) ∧ Ext w w' := by
  have HH := Lib.hid hh
  clear hh
  have hpl := pageP_len 7 (b := [97, 98]) (by decide)
  have HG7 := Lib.hid (getL_pageP (n := 7) (b := [97, 98]) may_7 (by decide))
  have HG8 := Lib.hid (getL_other (n := 7) (m := 8) (b := [97, 98]) may_7 (by decide) (by decide))
  have HT7 := Lib.hid (fun v w hv => ptag_p 7 v [97, 98] w may_7 (by decide) hv)
  have HP7 := Lib.hid (fun v w hh hv => pput_any 7 v [97, 98] w hh may_7 hv (by decide))
  have HR5 := Lib.hid (fun v w hh hv => prow_any 5 v (List.replicate 43 0) w hh hv (by decide) (by decide) (by decide))
  have HU5 := Lib.hid (fun v w hh hv => punrow_any 5 v (List.replicate 43 0) [] w hh hv (by decide) (by decide) (by decide))
  rw [List.append_nil] at HU5
  have hrl : ((rowL 5 (List.replicate 43 0)).map byteRow).length = 2 := by rw [List.length_map, rowL_len]; rfl
  have HRL := Lib.hid hrl
  have HPL := Lib.hid hpl
  clear hpl hrl
  generalize pageP 7 [97, 98] = p at *
  go_enter Tryd.func7, Tryd.ntmps7
  have hcv := convConst
  go_wp2_with fail
  have hb := RB.litM w #[.int .u8 97, .int .u8 98] 5 [97, 98] 2 (2, 3) rfl (by omega) live_bytes
  have HB := Lib.hid hb
  clear hb
  refine (HP7.out _ _ (HH.out.ext ((Ext.refl _).alloc _)) HB.out).mono ?_
  rintro e w1 ⟨v1, rfl, ho1, he1⟩
  obtain ⟨A1, c1, hv1⟩ := ho1.form
  rw [HPL.out] at hv1
  subst hv1
  have HO1 := Lib.hid ho1
  have hx1 : Ext w w1 := ((Ext.refl _).alloc _).trans he1
  clear ho1 he1 HB hcv
  go_wp2_with fail
  refine (pget_e 7 _ p 0 [97, 98] _ (HH.out.ext hx1) HO1.out.rb (by rw [HPL.out]; decide) HG7.out).mono ?_
  rintro e w2 ⟨v2, rfl, ho2, he2⟩
  obtain ⟨A2, c2, rfl⟩ := ho2.form
  have HO2 := Lib.hid ho2
  have hx2 := hx1.trans he2
  have HE2 := Lib.hid he2
  clear ho2 he2
  go_wp2_with fail
  refine (pget_e 8 _ p 60 [] _ (HH.out.ext hx2) (HO1.out.rb.ext HE2.out) (by rw [HPL.out]; decide) HG8.out).mono ?_
  rintro e w3 ⟨v3, rfl, ho3, he3⟩
  obtain ⟨A3, c3, rfl⟩ := ho3.form
  have hx3 := hx2.trans he3
  have HE3 := Lib.hid he3
  clear ho3 he3
  go_wp2_with fail
  refine (HT7.out _ _ (HO1.out.rb.ext (HE2.out.trans HE3.out))).mono ?_
  rintro e w4 ⟨rfl, he4⟩
  have hx4 := hx3.trans he4
  have HE4 := Lib.hid he4
  clear he4
  go_wp2_with (at_make; refine wpList_mk rfl elemB _ _ _ rfl 43 rfl rfl (by omega) (by unfold maxLen; omega) ?_; intro v5 w5 hv5 ho5 he5; subst hv5; rw [madeB] at ho5; have HO5 := Lib.hid (OB.rep ho5); have HE5 := Lib.hid he5; clear ho5 he5)
  refine (HR5.out _ _ (HH.out.ext (hx4.trans HE5.out)) HO5.out.rb).mono ?_
  rintro e w6 ⟨v6, vs6, rfl, ho6, he6⟩
  obtain ⟨A6, c6, hv6⟩ := ho6.rr.form
  rw [HRL.out] at hv6
  subst hv6
  have HO6 := Lib.hid ho6.rr
  have hx6 := (hx4.trans HE5.out).trans he6
  have HE6 := Lib.hid he6
  clear ho6 he6
  go_wp2_with fail
  refine (HU5.out _ _ (HH.out.ext hx6) HO6.out).mono ?_
  rintro e w7 ⟨v7, rfl, hr7, he7⟩
  obtain ⟨A7, c7, rfl⟩ := hr7.form
  have hx7 := hx6.trans he7
  have HE7 := Lib.hid he7
  clear hr7 he7
  rw [show pages (List.replicate 43 (0 : UInt8)).length = 2 from rfl, List.length_replicate]
  go_wp2_with fail
  refine (pput_no 0 _ w7 (by unfold TagMay; omega) ⟨_, _, _, rfl⟩).mono ?_
  rintro e w8 ⟨rfl, rfl⟩
  have hs : (convert 22 9 (.slice A2 2 c2)).run Tryd.prog w7 = .ok (.string ⟨#[97, 98]⟩) w7 := strB (HO2.out.rb.ext ((((HE3.out.trans HE4.out).trans HE5.out).trans HE6.out).trans HE7.out))
  go_wp2
  go_ret
  exact ⟨rfl, hx7⟩
end Go.Proofs.YtklnbmcfnnmliaaDoor
