/-
  The walks of package oxbowref06: pages by definition.
-/
import Derived.Test.YtklnbmcfnnmliaaDoorPage
import Derived.Test.YtklnbmcfnnmliaaDoorRowS
import Derived.Test.YtklnbmcfnnmliaaDoorChunk2
namespace Go.Proofs.YtklnbmcfnnmliaaDoor
open Go.RowKit Go.Ox
attribute [local irreducible] OB RB

set_option maxRecDepth 100000 in
set_option maxHeartbeats 400000 in
theorem rmay_yes (n : Int) (w : World) (h : TagMay n) : Calls Tryd.prog 9 #[.int .i64 n] w fun e w' => e = .returned (.bool true) ∧ w = w' := by
  obtain ⟨h1, h2⟩ := h
  go_enter Tryd.func9, Tryd.ntmps9
  go_wp2
  go_ret
  exact ⟨rfl, rfl⟩
set_option maxRecDepth 100000 in
set_option maxHeartbeats 400000 in
theorem rmay_no (n : Int) (w : World) (h : ¬ TagMay n) : Calls Tryd.prog 9 #[.int .i64 n] w fun e w' => e = .returned (.bool false) ∧ w = w' := by
  by_cases h1 : n < 1
  · clear h
    go_enter Tryd.func9, Tryd.ntmps9
    go_wp2
    go_ret
    exact ⟨rfl, rfl⟩
  · have h2 : 4611686018427387903 < n := by unfold TagMay at h; omega
    have h3 : decide (n ≤ 4611686018427387903) = false := by simp; omega
    clear h
    go_enter Tryd.func9, Tryd.ntmps9
    go_wp2
    go_ret
    exact ⟨rfl, rfl⟩

/-- a page's bytes as they grow -/
def padL (n : Nat) (b : List UInt8) (k : Nat) : List UInt8 := pageT n ++ UInt8.ofNat b.length :: (b ++ List.replicate k 0)
theorem padL_0 (n : Nat) (b : List UInt8) : ([] ++ pageT n ++ [UInt8.ofNat b.length]) ++ b = padL n b 0 := by simp [padL]
theorem padL_succ (n : Nat) (b : List UInt8) (k : Nat) : padL n b k ++ [0] = padL n b (k + 1) := by
  simp only [padL, List.replicate_succ']
  simp
theorem padL_len (n : Nat) (b : List UInt8) (k : Nat) : (padL n b k).length = 9 + b.length + k := by simp [padL, pageT_len]; omega
theorem padL_end (n : Nat) (b : List UInt8) {k : Nat} (hb : b.length ≤ 43) (h : 9 + b.length + k = 52) : padL n b k = pageHead n b := by
  unfold padL pageHead; rw [show 43 - b.length = k by omega]

set_option maxRecDepth 100000 in
set_option maxHeartbeats 1000000 in
theorem rpput_any (n : Nat) (v : Value) (b : List UInt8) (w : World) (hn : n ≤ 4611686018427387903) (hv : RB w v b) (hb : b.length ≤ 43) :
    Calls Tryd.prog 12 #[.int .i64 n, v] w fun e w' => ∃ u, e = .returned u ∧ OB 5 w.heap.size w' u (pageP n b) ∧ Ext w w' := by
  obtain ⟨A, c, rfl⟩ := hv.form
  have hF := Lib.hid (rfix_any n 8 w (by omega) (by omega) (by omega))
  have HB := Lib.hid hv
  have hT := Lib.hid (pageT_len n)
  have HLB := Lib.hid hb
  have HP0 := Lib.hid (padL_0 n b)
  have HPS := Lib.hid (padL_succ n b)
  have HPL := Lib.hid (padL_len n b)
  have HPE := Lib.hid (fun k h => @padL_end n b k hb h)
  have hP : Hid (pageP n b = sealed (pageHead n b) ++ pageT n) := Lib.hid rfl
  have hH := Lib.hid (pageHead_len n hb)
  have hbl : 0 ≤ (b.length : Int) := by omega
  have hbl2 : (b.length : Int) < 256 := by omega
  have hby : Hid (byteV (UInt8.ofNat b.length) = .int .u8 (b.length : Int)) := Lib.hid (byteV_of (by omega))
  have hb0 : Hid (byteV 0 = .int .u8 0) := Lib.hid (by unfold byteV n8; rfl)
  have HBL : Hid (b.length ≤ 43) := Lib.hid hb
  clear hv hb hn
  rw [show Num.digits n 8 = pageT n from rfl] at hF
  generalize pageP n b = p at *
  generalize padL n b = pd at *
  generalize pageHead n b = hd at *
  generalize pageT n = t at *
  go_enter Tryd.func12, Tryd.ntmps12
  go_wp2_with (first
    | (go_at_call 25; refine hF.out.mono ?_; rintro e w1 ⟨v1, rfl, ho1, he1⟩; obtain ⟨A1, c1, rfl⟩ := ho1.form; have HO1 := Lib.hid ho1; have HE1 := Lib.hid he1; clear ho1 he1)
    | (refine wpList_appBB rfl elemB w1 _ (.tmp 13) (.tmp 14) rfl _ [] rfl (OB.emptyL w1 _) ((Ext.refl w1).alloc _) _ t rfl (HO1.out.rb.ext ((Ext.refl w1).alloc _)) (by rw [hT.out]; decide) ?_; intro v2 w2 ho2 he2 hg2; have HO2 := Lib.hid ho2; have HE2 := Lib.hid he2; clear ho2 he2 hg2)
    | (refine wpList_appBB rfl elemB w1 _ (.tmp 16) (.tmp 20) rfl _ ([] ++ t) rfl (HO2.out.ext ((Ext.refl _).alloc _)) (HE2.out.alloc _) _ [UInt8.ofNat b.length] rfl (RB.lit1 _ _ _ _ hby.out) (by simp [hT.out]) ?_; intro v3 w3 ho3 he3 hg3; have HO3 := Lib.hid ho3; have HE3 := Lib.hid he3; clear ho3 he3 hg3)
    | (refine wpList_appBB rfl elemB w1 _ (.tmp 22) (.tmp 23) rfl _ ([] ++ t ++ [UInt8.ofNat b.length]) rfl HO3.out HE3.out _ b rfl (HB.out.ext (HE1.out.trans HE3.out)) (by have := HBL.out; simp [hT.out]; omega) ?_; intro v4 w4 ho4 he4 hg4; rw [HP0.out] at ho4; have HO4 := Lib.hid ho4; have HE4 := Lib.hid he4; clear ho4 he4 hg4))
  go_loopw [7] (fun y wr => ∃ k : Nat, 9 + b.length + k ≤ 52 ∧ OB 5 w1.heap.size wr y (pd k) ∧ Ext w1 wr) (fun y _ => match y with | .slice _ q _ => 52 - q | _ => 0)
  case atStart => exact ⟨0, by have := HBL.out; omega, HO4.out, HE4.out⟩
  case round =>
    obtain ⟨k, hk, hown, hext⟩ := hrel
    obtain ⟨A5, c5, rfl⟩ := hown.form
    rw [HPL.out] at *
    have HO5 := Lib.hid hown
    clear hown
    by_cases hlt : 9 + b.length + k < 52
    · have hg : ((9 + b.length + k : Nat) : Int) < 52 := by omega
      go_wp2_with (refine wpList_appBB rfl elemB w1 _ (.tmp 28) (.tmp 29) rfl _ (pd k) rfl (HO5.out.ext ((Ext.refl _).alloc _)) (hext.alloc _) _ [0] rfl (RB.lit1 _ _ _ _ hb0.out) (by rw [HPL.out]; simp; omega) ?_; intro v6 w6 ho6 he6 hg6; rw [HPS.out] at ho6; obtain ⟨A6, c6, rfl⟩ := ho6.form; rw [HPL.out] at *; have HO6 := Lib.hid ho6; have HE6 := Lib.hid he6; clear ho6 he6 hg6)
      go_roundw
      case rel => exact ⟨k + 1, by omega, HO6.out, HE6.out⟩
      case measure => simp; omega
    · have hg : ¬ ((9 + b.length + k : Nat) : Int) < 52 := by omega
      have HE := Lib.hid (HPE.out k (by omega))
      rw [HE.out] at HO5
      clear HPE HPS HPL HP0
      generalize 9 + b.length + k = q at *
      go_wp2_with (first
        | (go_at_call 26; refine (rseal_any _ hd _ HO5.out.rb (by rw [hH.out]; decide)).mono ?_; rintro e w7 ⟨v7, rfl, ho7, he7⟩; obtain ⟨A7, c7, rfl⟩ := ho7.form; have HO7 := Lib.hid (ho7.low hext.size); have HE7 := Lib.hid (hext.trans he7); clear ho7 he7)
        | (refine wpList_appBB rfl elemB w1 _ (.tmp 33) (.tmp 34) rfl _ (sealed hd) rfl HO7.out HE7.out _ t rfl (HO1.out.rb.ext HE7.out) (by simp [sealed_len, hH.out, hT.out]) ?_; intro v8 w8 ho8 he8 hg8; have HO8 := Lib.hid ho8; have HE8 := Lib.hid he8; clear ho8 he8 hg8))
      go_ret
      exact ⟨_, rfl, by rw [hP.out]; exact HO8.out.low HE1.out.size, HE1.out.trans HE8.out⟩
end Go.Proofs.YtklnbmcfnnmliaaDoor
