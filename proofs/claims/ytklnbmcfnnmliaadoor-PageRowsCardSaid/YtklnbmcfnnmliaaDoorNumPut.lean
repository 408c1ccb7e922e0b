/-
  The walks of package num: what puts numbers.
-/
import Derived.Test.YtklnbmcfnnmliaaDoorChecked
import Derived.Test.YtklnbmcfnnmliaaDoorMem
import Derived.Test.YtklnbmcfnnmliaaDoorNumMath
import Derived.Test.YtklnbmcfnnmliaaDoorSlcB
import Derived.WalkKit
import Derived.WalkSpells
import Derived.WalkLawsBesides
import Derived.StillTailTactics
import Derived.IntWalk
namespace Go.Proofs.YtklnbmcfnnmliaaDoor
open Go.RowKit Go.Ox

set_option maxRecDepth 100000 in
set_option maxHeartbeats 400000 in
theorem width_any (n : Nat) (w : World) (hn : n < 9223372036854775808) :
    Calls Tryd.prog 29 #[.int .i64 n] w fun e w' => e = .returned (.int .i64 (Num.width n : Nat)) ∧ w = w' := by
  have hw : Num.width n ≤ 8 := (Num.width_le 8 n (by omega)).2 (by omega)
  have hd := Num.width_div n
  have HD := Lib.hid hd
  clear hd
  go_enter Tryd.func29, Tryd.ntmps29
  go_wp2
  go_loop [0, 3] (fun a s => ∃ m k : Nat, a = .int .i64 m ∧ s = .int .i64 k ∧ m ≤ n ∧ 1 ≤ k ∧ Num.width n = (if m = 0 then k else k + Num.width m)) (fun a _ => (intOf a).toNat)
  case atStart => exact ⟨n / 256, 1, by go_num, rfl, by omega, Nat.le_refl _, HD.out⟩
  case round =>
    obtain ⟨m, k, rfl, rfl, hm, hk, hwm⟩ := hrel
    by_cases h0 : m = 0
    · subst h0
      rw [if_pos rfl] at hwm
      rw [hwm]
      go_wp2
      go_ret
      exact ⟨rfl, rfl⟩
    · rw [if_neg h0] at hwm
      have hp := Num.width_pos m
      have hk2 : k ≤ 8 := by omega
      have HW := Lib.hid hwm
      clear hwm hw
      have hpos : (0 : Int) < (m : Int) := by omega
      go_wp2
      refine ⟨⟨m / 256, k + 1, by go_num, by go_num, by omega, by omega, ?_⟩, by simp [intOf]; omega⟩
      rw [HW.out, Num.width_div m]
      split <;> omega

theorem shr_byte (n k : Nat) : ((n : Int) / 2 ^ (8 * k)) % 256 = n8 (UInt8.ofNat (n / 256 ^ k % 256)) := by
  rw [n8_of (by omega), show (2 : Int) ^ (8 * k) = ((256 ^ k : Nat) : Int) by rw [show 256 = 2 ^ 8 from rfl, ← Nat.pow_mul, Int.natCast_pow]; rfl]
  rw [← Int.natCast_ediv]
  omega

set_option maxRecDepth 100000 in
set_option maxHeartbeats 400000 in
theorem digits_any (n s : Nat) (w : World) (_hn : n < 9223372036854775808) (hs : s ≤ 8) :
    Calls Tryd.prog 30 #[.int .i64 n, .int .i64 s] w fun e w' => ∃ v, e = .returned v ∧ OB 5 w.heap.size w' v (Num.digits n s) ∧ Ext w w' := by
  go_enter Tryd.func30, Tryd.ntmps30
  go_wp2_with (at_make; refine wpList_mk rfl elemB _ (.tmp 7) (.tmp 7) rfl s rfl rfl (by omega) (by unfold maxLen; omega) ?_; intro v3 w3 hv3 ho3 he3; subst hv3)
  have hb3 : OB 5 w.heap.size w3 (.slice (some ⟨w.heap.size, 0, none⟩) s s) (List.replicate s 0) := by
    rw [madeB] at ho3
    unfold OB
    rw [List.length_replicate]; exact ho3
  clear ho3
  have HB3 := Lib.hid hb3
  have HE3 := Lib.hid he3
  clear hb3 he3
  go_loopw [11] (fun i wr => ∃ k : Nat, k ≤ s ∧ i = .int .i64 k ∧ OB 5 w.heap.size wr (.slice (some ⟨w.heap.size, 0, none⟩) s s) ((Num.digits n s).take k ++ List.replicate (s - k) 0) ∧ Ext w wr) (fun i _ => s - (intOf i).toNat)
  case atStart => exact ⟨0, Nat.zero_le _, rfl, by simpa using HB3.out, HE3.out⟩
  case round =>
    obtain ⟨k, hk, rfl, hown, hext⟩ := hrel
    have HO := Lib.hid hown
    clear hown
    by_cases hlt : k < s
    · have hdl := Num.digits_len s n
      obtain ⟨hc3, hf3, _⟩ := HO.out.at_ (j := k) (by simp; omega)
      have ht := Num.digits_set n s hlt _ rfl
      have HT := Lib.hid ht
      clear ht
      generalize ((Num.digits n s).take k ++ List.replicate (s - k) 0)[k]'(by simp; omega) = old at *
      have hsb := shr_byte n (s - 1 - k)
      generalize UInt8.ofNat (n / 256 ^ (s - 1 - k) % 256) = x at *
      have g1 : (k : Int) < (s : Int) := by omega
      have g0 : 0 ≤ (k : Int) := by omega
      generalize wr.heap.size = hsz
      go_wp2
      refine ⟨⟨k + 1, by omega, by go_num, ?_, hext.setCell (p := ⟨w.heap.size, k, none⟩) (Nat.le_refl _) _⟩, by simp [intOf]; omega⟩
      rw [← HT.out]
      exact HO.out.stored k _
    · obtain rfl : k = s := by omega
      have hdl := Num.digits_len k n
      have ho : OB 5 w.heap.size wr (.slice (some ⟨w.heap.size, 0, none⟩) k k) (Num.digits n k) := by
        have := HO.out
        rwa [Nat.sub_self, List.replicate_zero, List.append_nil, List.take_of_length_le (by omega)] at this
      go_wp2
      go_ret
      exact ⟨_, rfl, ho, hext⟩
theorem OB.lit1 (w : World) (x : Value) (b : UInt8) (h : byteV b = x) : OB 5 w.heap.size (w.alloc (.cells #[x] 5)) (.slice (some ⟨w.heap.size, 0, none⟩) 1 1) [b] := by
  unfold OB
  rw [List.map_singleton, h]
  exact World.ownsRow_lit w _ 1 (Nat.le_refl _) (by unfold maxLen; omega) rfl
theorem OB.lit2 (w : World) (x y : Value) (b d : UInt8) (h : byteV b = x) (h2 : byteV d = y) : OB 5 w.heap.size (w.alloc (.cells #[x, y] 5)) (.slice (some ⟨w.heap.size, 0, none⟩) 2 2) [b, d] := by
  unfold OB
  rw [List.map_cons, List.map_singleton, h, h2]
  exact World.ownsRow_lit w _ 2 (Nat.le_refl _) (by unfold maxLen; omega) rfl
theorem byteV_of {n : Nat} (h : n < 256) : byteV (UInt8.ofNat n) = .int .u8 (n : Int) := by unfold byteV; rw [n8_of h]

/-- there are bytes of that size for the number -/
def FixOk (n s : Int) : Prop := 0 ≤ n ∧ 1 ≤ s ∧ s ≤ 8 ∧ Num.width n.toNat ≤ s.toNat
set_option maxRecDepth 100000 in
set_option maxHeartbeats 400000 in
theorem rfix_no (n s : Int) (w : World) (h2 : ¬ (0 ≤ n ∧ 1 ≤ s ∧ s ≤ 8)) :
    Calls Tryd.prog 25 #[.int .i64 n, .int .i64 s] w fun e w' => e = .returned (.tuple #[.slice none 0 0, .bool false]) ∧ w = w' := by
  by_cases c1 : n < 0
  · clear h2
    go_enter Tryd.func25, Tryd.ntmps25
    go_wp2
    go_ret2
    exact ⟨rfl, rfl⟩
  by_cases c2 : s < 1
  · clear h2
    go_enter Tryd.func25, Tryd.ntmps25
    go_wp2
    go_ret2
    exact ⟨rfl, rfl⟩
  · have c3 : 8 < s := by omega
    clear h2
    go_enter Tryd.func25, Tryd.ntmps25
    go_wp2
    go_ret2
    exact ⟨rfl, rfl⟩

theorem nat_eq0 (m : Nat) : ((m : Int) == 0) = (m == 0) := by
  cases m <;> rfl
set_option maxRecDepth 100000 in
set_option maxHeartbeats 400000 in
theorem rfix_any (n s : Nat) (w : World) (hn : n < 9223372036854775808) (h0 : 1 ≤ s) (hs : s ≤ 8) :
    Calls Tryd.prog 25 #[.int .i64 n, .int .i64 s] w fun e w' => ∃ v, e = .returned (.tuple #[v, .bool (n / 256 ^ s == 0)]) ∧ OB 5 w.heap.size w' v (Num.digits n s) ∧ Ext w w' := by
  have c1 : ¬ (n : Int) < 0 := by omega
  have c2 : ¬ (s : Int) < 1 := by omega
  have c3 : ¬ (8 : Int) < (s : Int) := by omega
  go_enter Tryd.func25, Tryd.ntmps25
  go_wp2_with (at_make; refine wpList_mk rfl elemB _ (.tmp 18) (.tmp 18) rfl s rfl rfl (by omega) (by unfold maxLen; omega) ?_; intro v3 w3 hv3 ho3 he3; subst hv3)
  have hb3 : OB 5 w.heap.size w3 (.slice (some ⟨w.heap.size, 0, none⟩) s s) (List.replicate s 0) := by
    rw [madeB] at ho3
    unfold OB
    rw [List.length_replicate]; exact ho3
  clear ho3
  have HB3 := Lib.hid hb3
  have HE3 := Lib.hid he3
  clear hb3 he3
  go_loopw [0, 7] (fun a i wr => ∃ j m : Nat, j ≤ s ∧ i = .int .i64 (j - 1) ∧ a = .int .i64 m ∧ m = n / 256 ^ (s - j) ∧ OB 5 w.heap.size wr (.slice (some ⟨w.heap.size, 0, none⟩) s s) (List.replicate j 0 ++ (Num.digits n s).drop j) ∧ Ext w wr) (fun _ i _ => (intOf i + 1).toNat)
  case atStart => exact ⟨s, n, Nat.le_refl _, rfl, rfl, by simp, by rw [List.drop_of_length_le (by rw [Num.digits_len]; omega), List.append_nil]; exact HB3.out, HE3.out⟩
  case round =>
    obtain ⟨j, m, hj, rfl, rfl, hm, hown, hext⟩ := hrel
    have HO := Lib.hid hown
    clear hown
    by_cases hlt : 0 < j
    · have hdl := Num.digits_len s n
      obtain ⟨i, rfl⟩ : ∃ i, j = i + 1 := ⟨j - 1, by omega⟩
      obtain ⟨hc3, hf3, _⟩ := HO.out.at_ (j := i) (by simp; omega)
      have ht := Num.digits_setD n s hlt hj _ rfl
      rw [← hm] at ht
      have hmd : m / 256 = n / 256 ^ (s - i) := by rw [hm, Nat.div_div_eq_div_mul, ← Nat.pow_succ, show (s - (i + 1)).succ = s - i by omega]
      have HM := Lib.hid hmd
      have hml : m ≤ n := by rw [hm]; exact Nat.div_le_self _ _
      clear hm hmd
      have HT := Lib.hid ht
      clear ht
      generalize (List.replicate (i + 1) 0 ++ (Num.digits n s).drop (i + 1))[i]'(by simp; omega) = old at *
      have hx : n8 (UInt8.ofNat (m % 256)) = ((m % 256 : Nat) : Int) := n8_of (by omega)
      generalize UInt8.ofNat (m % 256) = x at *
      have e1 : ((i + 1 : Nat) : Int) - 1 = (i : Int) := by omega
      rw [e1]
      have g1 : (i : Int) < (s : Int) := by omega
      have g0 : 0 ≤ (i : Int) := by omega
      generalize wr.heap.size = hsz
      go_wp2
      refine ⟨⟨i, m / 256, by omega, rfl, by go_num, HM.out, ?_, hext.setCell (p := ⟨w.heap.size, i, none⟩) (Nat.le_refl _) _⟩, by simp [intOf]⟩
      rw [Nat.add_sub_cancel] at HT
      rw [← HT.out]
      have hst := HO.out.stored i x
      unfold byteV at hst
      rw [hx, show ((m % 256 : Nat) : Int) = (m : Int) % 256 by omega] at hst
      exact hst
    · obtain rfl : j = 0 := by omega
      rw [Nat.sub_zero] at hm
      have ho := HO.out
      rw [List.replicate_zero, List.drop_zero, List.nil_append] at ho
      have HM := Lib.hid hm
      clear hm
      go_wp2
      go_ret2
      exact ⟨_, by rw [← HM.out, nat_eq0]; rfl, ho, hext⟩
end Go.Proofs.YtklnbmcfnnmliaaDoor
