/-
  slices.Equal at bytes.
-/
import Derived.Test.YtklnbmcfnnmliaaDoorSlcCat
namespace Go.Proofs.YtklnbmcfnnmliaaDoor
open Go.RowKit Go.Ox

theorem take_eq_step {l1 l2 : List UInt8} {k : Nat} (h1 : k < l1.length) (h2 : k < l2.length) (h : l1.take k = l2.take k) (he : l1[k] = l2[k]) : l1.take (k + 1) = l2.take (k + 1) := by
  rw [List.take_succ_eq_append_getElem h1, List.take_succ_eq_append_getElem h2, h, he]
theorem ne_of_at {l1 l2 : List UInt8} {k : Nat} (h1 : k < l1.length) (h2 : k < l2.length) (he : l1[k] ≠ l2[k]) : l1 ≠ l2 := fun h => by subst h; exact he rfl

set_option maxRecDepth 100000 in
set_option maxHeartbeats 400000 in
theorem equal_any (v1 v2 : Value) (l1 l2 : List UInt8) (w : World) (hb1 : RB w v1 l1) (hb2 : RB w v2 l2) :
    Calls Tryd.prog 21 #[v1, v2] w fun e w' => e = .returned (.bool (l1 == l2)) ∧ Ext w w' := by
  obtain ⟨A1, c1, rfl, hr1⟩ := hb1
  obtain ⟨A2, c2, rfl, hr2⟩ := hb2
  have hn1 := hr1.nc
  have hm1 := hr1.cm
  have hn2 := hr2.nc
  have hm2 := hr2.cm
  unfold maxLen at hm1 hm2
  by_cases hlen : l1.length = l2.length
  · have hne : ((l1.length : Int) != (l2.length : Int)) = false := by simp [hlen]
    have HL := Lib.hid hlen
    have hlen1 : l1.length ≤ l2.length := by omega
    have hlen2 : l2.length ≤ l1.length := by omega
    clear hlen
    go_enter Tryd.func21, Tryd.ntmps21
    go_wp2
    go_loopw [5, 13] (fun _ i wr => ∃ k : Nat, k ≤ l1.length ∧ i = .int .i64 k ∧ l1.take k = l2.take k ∧ Ext w wr) (fun _ i _ => l1.length - (intOf i).toNat)
    case atStart => exact ⟨0, Nat.zero_le _, rfl, rfl, Ext.refl _⟩
    case round =>
      obtain ⟨k, hk, rfl, hpre, hext⟩ := hrel
      have HP := Lib.hid hpre
      clear hpre
      by_cases hlt : k < l1.length
      · obtain ⟨b1, o1, rfl, hc1⟩ := (hr1.ext hext).byte hlt
        obtain ⟨b2, o2, rfl, hc2⟩ := (hr2.ext hext).byte (k := k) (by omega)
        have hb1 : (k : Int) < (l1.length : Int) := by omega
        have hb2 : (k : Int) < (l2.length : Int) := by omega
        have hb0 : 0 ≤ (k : Int) := by omega
        by_cases hxy : l1[k] = l2[k]'(by omega)
        · have hd : (n8 l1[k] != n8 (l2[k]'(by omega))) = false := by rw [hxy]; simp
          have HX := Lib.hid hxy
          clear hxy
          go_wp2
          go_quiet (fail)
          go_wp2
          go_roundw
          case rel => exact ⟨k + 1, by omega, by go_num, take_eq_step hlt (by omega) HP.out HX.out, hext.drewN _⟩
          case measure => simp [intOf]; omega
        · have hd : (n8 l1[k] != n8 (l2[k]'(by omega))) = true := by simp [n8_ne hxy]
          have HX := Lib.hid hxy
          clear hxy
          go_wp2
          go_quiet (fail)
          go_wp2
          go_ret
          exact ⟨by have := ne_of_at hlt (by omega) HX.out; simp [this], hext.drewN _⟩
      · obtain rfl : k = l1.length := by omega
        go_wp2
        go_ret
        refine ⟨?_, hext⟩
        have := HP.out
        rw [List.take_length, HL.out, List.take_length] at this
        simp [this]
  · have hne : ((l1.length : Int) != (l2.length : Int)) = true := by simp; omega
    go_enter Tryd.func21, Tryd.ntmps21
    go_wp2
    go_ret
    exact ⟨by have : l1 ≠ l2 := fun h => hlen (by rw [h]); simp [this], Ext.refl _⟩

end Go.Proofs.YtklnbmcfnnmliaaDoor
