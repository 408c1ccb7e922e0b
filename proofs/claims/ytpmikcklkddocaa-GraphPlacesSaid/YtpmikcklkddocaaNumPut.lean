/-
  The walks of package num: what puts numbers.
-/
import Derived.Test.YtpmikcklkddocaaChecked
import Derived.Test.YtpmikcklkddocaaMem
import Derived.Test.YtpmikcklkddocaaNumMath
import Derived.Test.YtpmikcklkddocaaSlcB
import Derived.WalkKit
import Derived.WalkSpells
import Derived.WalkLawsBesides
import Derived.StillTailTactics
import Derived.IntWalk
namespace Go.Proofs.Ytpmikcklkddocaa
open Go.RowKit Go.Ox

set_option maxRecDepth 100000 in
set_option maxHeartbeats 400000 in
theorem width_any (n : Nat) (w : World) (hn : n < 9223372036854775808) :
    Calls Try.prog 82 #[.int .i64 n] w fun e w' => e = .returned (.int .i64 (Num.width n : Nat)) ∧ w = w' := by
  have hw : Num.width n ≤ 8 := (Num.width_le 8 n (by omega)).2 (by omega)
  have hd := Num.width_div n
  have HD := Lib.hid hd
  clear hd
  go_enter Try.func82, Try.ntmps82
  go_wp2
  go_loop [0, 3] (fun a s => ∃ m k : Nat, a = .int .i64 m ∧ s = .int .i64 k ∧ m ≤ n ∧ 1 ≤ k ∧ Num.width n = (if m = 0 then k else k + Num.width m)) (fun a _ => (intOf a).toNat)
  case atStart => exact ⟨n / 256, 1, by go_num, rfl, by omega, Nat.le_refl _, HD.out⟩
  case round =>
    obtain ⟨m, k, rfl, rfl, hm, hk, hwm⟩ := hrel
    by_cases h0 : m = 0
    · subst h0
      rw [if_pos rfl] at hwm
      rw [hwm]
      go_wp2
      go_ret
      exact ⟨rfl, rfl⟩
    · rw [if_neg h0] at hwm
      have hp := Num.width_pos m
      have hk2 : k ≤ 8 := by omega
      have HW := Lib.hid hwm
      clear hwm hw
      have hpos : (0 : Int) < (m : Int) := by omega
      go_wp2
      refine ⟨⟨m / 256, k + 1, by go_num, by go_num, by omega, by omega, ?_⟩, by simp [intOf]; omega⟩
      rw [HW.out, Num.width_div m]
      split <;> omega

theorem shr_byte (n k : Nat) : ((n : Int) / 2 ^ (8 * k)) % 256 = n8 (UInt8.ofNat (n / 256 ^ k % 256)) := by
  rw [n8_of (by omega), show (2 : Int) ^ (8 * k) = ((256 ^ k : Nat) : Int) by rw [show 256 = 2 ^ 8 from rfl, ← Nat.pow_mul, Int.natCast_pow]; rfl]
  rw [← Int.natCast_ediv]
  omega

set_option maxRecDepth 100000 in
set_option maxHeartbeats 400000 in
theorem digits_any (n s : Nat) (w : World) (_hn : n < 9223372036854775808) (hs : s ≤ 8) :
    Calls Try.prog 83 #[.int .i64 n, .int .i64 s] w fun e w' => ∃ v, e = .returned v ∧ OB 5 w.heap.size w' v (Num.digits n s) ∧ Ext w w' := by
  go_enter Try.func83, Try.ntmps83
  go_wp2_with (at_make; refine wpList_mk rfl elemB _ (.tmp 7) (.tmp 7) rfl s rfl rfl (by omega) (by unfold maxLen; omega) ?_; intro v3 w3 hv3 ho3 he3; subst hv3)
  have hb3 : OB 5 w.heap.size w3 (.slice (some ⟨w.heap.size, 0, none⟩) s s) (List.replicate s 0) := by
    rw [madeB] at ho3
    unfold OB
    rw [List.length_replicate]; exact ho3
  clear ho3
  have HB3 := Lib.hid hb3
  have HE3 := Lib.hid he3
  clear hb3 he3
  go_loopw [11] (fun i wr => ∃ k : Nat, k ≤ s ∧ i = .int .i64 k ∧ OB 5 w.heap.size wr (.slice (some ⟨w.heap.size, 0, none⟩) s s) ((Num.digits n s).take k ++ List.replicate (s - k) 0) ∧ Ext w wr) (fun i _ => s - (intOf i).toNat)
  case atStart => exact ⟨0, Nat.zero_le _, rfl, by simpa using HB3.out, HE3.out⟩
  case round =>
    obtain ⟨k, hk, rfl, hown, hext⟩ := hrel
    have HO := Lib.hid hown
    clear hown
    by_cases hlt : k < s
    · have hdl := Num.digits_len s n
      obtain ⟨hc3, hf3, _⟩ := HO.out.at_ (j := k) (by simp; omega)
      have ht := Num.digits_set n s hlt _ rfl
      have HT := Lib.hid ht
      clear ht
      generalize ((Num.digits n s).take k ++ List.replicate (s - k) 0)[k]'(by simp; omega) = old at *
      have hsb := shr_byte n (s - 1 - k)
      generalize UInt8.ofNat (n / 256 ^ (s - 1 - k) % 256) = x at *
      have g1 : (k : Int) < (s : Int) := by omega
      have g0 : 0 ≤ (k : Int) := by omega
      generalize wr.heap.size = hsz
      go_wp2
      refine ⟨⟨k + 1, by omega, by go_num, ?_, hext.setCell (p := ⟨w.heap.size, k, none⟩) (Nat.le_refl _) _⟩, by simp [intOf]; omega⟩
      rw [← HT.out]
      exact HO.out.stored k _
    · obtain rfl : k = s := by omega
      have hdl := Num.digits_len k n
      have ho : OB 5 w.heap.size wr (.slice (some ⟨w.heap.size, 0, none⟩) k k) (Num.digits n k) := by
        have := HO.out
        rwa [Nat.sub_self, List.replicate_zero, List.append_nil, List.take_of_length_le (by omega)] at this
      go_wp2
      go_ret
      exact ⟨_, rfl, ho, hext⟩
theorem OB.lit1 (w : World) (x : Value) (b : UInt8) (h : byteV b = x) : OB 5 w.heap.size (w.alloc (.cells #[x] 5)) (.slice (some ⟨w.heap.size, 0, none⟩) 1 1) [b] := by
  unfold OB
  rw [List.map_singleton, h]
  exact World.ownsRow_lit w _ 1 (Nat.le_refl _) (by unfold maxLen; omega) rfl
theorem OB.lit2 (w : World) (x y : Value) (b d : UInt8) (h : byteV b = x) (h2 : byteV d = y) : OB 5 w.heap.size (w.alloc (.cells #[x, y] 5)) (.slice (some ⟨w.heap.size, 0, none⟩) 2 2) [b, d] := by
  unfold OB
  rw [List.map_cons, List.map_singleton, h, h2]
  exact World.ownsRow_lit w _ 2 (Nat.le_refl _) (by unfold maxLen; omega) rfl
theorem byteV_of {n : Nat} (h : n < 256) : byteV (UInt8.ofNat n) = .int .u8 (n : Int) := by unfold byteV; rw [n8_of h]

set_option maxRecDepth 100000 in
set_option maxHeartbeats 400000 in
theorem put_neg (n : Int) (w : World) (hn : n < 0) :
    Calls Try.prog 63 #[.int .i64 n] w fun e w' => e = .returned (.tuple #[.slice none 0 0, .int .i64 1]) ∧ w = w' := by
  go_enter Try.func63, Try.ntmps63
  go_wp2
  go_ret2
  exact ⟨rfl, rfl⟩

set_option maxRecDepth 100000 in
set_option maxHeartbeats 400000 in
theorem put_any (n : Nat) (w : World) (hn : n < 9223372036854775808) :
    Calls Try.prog 63 #[.int .i64 n] w fun e w' => ∃ v, e = .returned (.tuple #[v, .int .i64 0]) ∧ OB 5 w.heap.size w' v (Num.put n) ∧ Ext w w' := by
  have h0 : (0 : Int) ≤ (n : Int) := by omega
  by_cases h1 : n < 240
  · have g1 : (n : Int) < 240 := by omega
    go_enter Try.func63, Try.ntmps63
    go_wp2
    go_ret2
    refine ⟨_, rfl, ?_, (Ext.refl _).alloc _⟩
    rw [Num.put_1 h1]
    exact OB.lit1 w _ _ (byteV_of (by omega))
  have HN := Lib.hid hn
  clear hn
  by_cases h2 : n < 2288
  · obtain ⟨m, rfl⟩ : ∃ m, n = m + 240 := ⟨n - 240, by omega⟩
    have g1 : ¬ ((m + 240 : Nat) : Int) < 240 := by omega
    have g2 : ((m + 240 : Nat) : Int) < 2288 := by omega
    have g3 : ((m + 240 : Nat) : Int) - 240 = (m : Int) := by omega
    have g4 : m < 2048 := by omega
    have HP := Lib.hid (Num.put_2 h1 h2)
    rw [Nat.add_sub_cancel] at HP
    clear h1 h2
    generalize ((m + 240 : Nat) : Int) = z at *
    go_enter Try.func63, Try.ntmps63
    go_wp2
    go_ret2
    refine ⟨_, rfl, ?_, (Ext.refl _).alloc _⟩
    rw [HP.out]
    refine OB.lit2 w _ _ _ _ ?_ ?_
    · rw [byteV_of (by omega)]; congr 1
    · rw [byteV_of (by omega)]; congr 1
  · have g1 : ¬ (n : Int) < 240 := by omega
    have g2 : ¬ (n : Int) < 2288 := by omega
    have hn := HN.out
    have hwd : Num.width n ≤ 8 := (Num.width_le 8 n (by omega)).2 (by omega)
    have hW := Lib.hid (width_any n w hn)
    have hdl := Num.digits_len (Num.width n) n
    have hp := Num.put_3 h1 h2
    generalize hk : Num.width n = k at *
    have HK := Lib.hid hk
    have HP := Lib.hid hp
    clear hk hp h1 h2
    have hbl : byteV (UInt8.ofNat (246 + k)) = .int .u8 (246 + (k : Int)) := by rw [byteV_of (by omega)]; congr 1
    go_enter Try.func63, Try.ntmps63
    go_wp2_with (first
      | (go_at_call 82; refine hW.out.mono ?_; rintro e w' ⟨rfl, rfl⟩)
      | (go_at_call 83; refine (digits_any n k _ hn hwd).mono ?_; rintro e w1 ⟨v1, rfl, ho1, he1⟩; have HO1 := Lib.hid (RB.rd ho1.rb); have HL1 := Lib.hid ((OB.lit1 w _ _ hbl).ext he1).own; rw [hdl] at HO1; clear ho1)
      | (at_builtin; refine wpList_app rfl elemB _ _ _ rfl w.heap.size _ 1 _ rfl HL1.out _ k _ rfl HO1.out (one_byteV _) (by omega) (by unfold maxLen; omega) (((Ext.refl w).alloc _).trans he1).size ?_; intro v2 w2 ha))
    go_ret2
    refine ⟨_, rfl, ?_, ha.ext (((Ext.refl w).alloc _).trans he1) rfl HL1.out⟩
    rw [HP.out]
    exact OB.app (l := [UInt8.ofNat (246 + k)]) (by rw [hdl]; exact ha.own)
set_option maxRecDepth 100000 in
set_option maxHeartbeats 400000 in
theorem size_neg (n : Int) (w : World) (hn : n < 0) :
    Calls Try.prog 71 #[.int .i64 n] w fun e w' => e = .returned (.int .i64 0) ∧ w = w' := by
  go_enter Try.func71, Try.ntmps71
  go_wp2
  go_ret
  exact ⟨rfl, rfl⟩

set_option maxRecDepth 100000 in
set_option maxHeartbeats 400000 in
theorem size_any (n : Nat) (w : World) (hn : n < 9223372036854775808) :
    Calls Try.prog 71 #[.int .i64 n] w fun e w' => e = .returned (.int .i64 ((Num.put n).length : Nat)) ∧ w = w' := by
  have h0 : (0 : Int) ≤ (n : Int) := by omega
  have hl := Num.put_len n
  by_cases h1 : n < 240
  · have g1 : (n : Int) < 240 := by omega
    rw [if_pos h1] at hl
    rw [hl]
    clear hl
    go_enter Try.func71, Try.ntmps71
    go_wp2
    go_ret
    exact ⟨rfl, rfl⟩
  by_cases h2 : n < 2288
  · have g1 : ¬ (n : Int) < 240 := by omega
    have g2 : (n : Int) < 2288 := by omega
    rw [if_neg h1, if_pos h2] at hl
    rw [hl]
    clear hl h1 h2 hn
    generalize (n : Int) = z at *
    go_enter Try.func71, Try.ntmps71
    go_wp2
    go_ret
    exact ⟨rfl, rfl⟩
  · have g1 : ¬ (n : Int) < 240 := by omega
    have g2 : ¬ (n : Int) < 2288 := by omega
    have hwd : Num.width n ≤ 8 := (Num.width_le 8 n (by omega)).2 (by omega)
    have hW := Lib.hid (width_any n w hn)
    rw [if_neg h1, if_neg h2] at hl
    rw [hl]
    clear hl h1 h2 hn
    generalize Num.width n = k at *
    go_enter Try.func71, Try.ntmps71
    go_wp2_with (go_at_call 82; refine hW.out.mono ?_; rintro e w' ⟨rfl, rfl⟩)
    go_ret
    exact ⟨by congr 2, rfl⟩

/-- there are bytes of that size for the number -/
def FixOk (n s : Int) : Prop := 0 ≤ n ∧ 1 ≤ s ∧ s ≤ 8 ∧ Num.width n.toNat ≤ s.toNat
set_option maxRecDepth 100000 in
set_option maxHeartbeats 400000 in
theorem rfix_no (n s : Int) (w : World) (h2 : ¬ (0 ≤ n ∧ 1 ≤ s ∧ s ≤ 8)) :
    Calls Try.prog 73 #[.int .i64 n, .int .i64 s] w fun e w' => e = .returned (.tuple #[.slice none 0 0, .bool false]) ∧ w = w' := by
  by_cases c1 : n < 0
  · clear h2
    go_enter Try.func73, Try.ntmps73
    go_wp2
    go_ret2
    exact ⟨rfl, rfl⟩
  by_cases c2 : s < 1
  · clear h2
    go_enter Try.func73, Try.ntmps73
    go_wp2
    go_ret2
    exact ⟨rfl, rfl⟩
  · have c3 : 8 < s := by omega
    clear h2
    go_enter Try.func73, Try.ntmps73
    go_wp2
    go_ret2
    exact ⟨rfl, rfl⟩

theorem nat_eq0 (m : Nat) : ((m : Int) == 0) = (m == 0) := by
  cases m <;> rfl
set_option maxRecDepth 100000 in
set_option maxHeartbeats 400000 in
theorem rfix_any (n s : Nat) (w : World) (hn : n < 9223372036854775808) (h0 : 1 ≤ s) (hs : s ≤ 8) :
    Calls Try.prog 73 #[.int .i64 n, .int .i64 s] w fun e w' => ∃ v, e = .returned (.tuple #[v, .bool (n / 256 ^ s == 0)]) ∧ OB 5 w.heap.size w' v (Num.digits n s) ∧ Ext w w' := by
  have c1 : ¬ (n : Int) < 0 := by omega
  have c2 : ¬ (s : Int) < 1 := by omega
  have c3 : ¬ (8 : Int) < (s : Int) := by omega
  go_enter Try.func73, Try.ntmps73
  go_wp2_with (at_make; refine wpList_mk rfl elemB _ (.tmp 18) (.tmp 18) rfl s rfl rfl (by omega) (by unfold maxLen; omega) ?_; intro v3 w3 hv3 ho3 he3; subst hv3)
  have hb3 : OB 5 w.heap.size w3 (.slice (some ⟨w.heap.size, 0, none⟩) s s) (List.replicate s 0) := by
    rw [madeB] at ho3
    unfold OB
    rw [List.length_replicate]; exact ho3
  clear ho3
  have HB3 := Lib.hid hb3
  have HE3 := Lib.hid he3
  clear hb3 he3
  go_loopw [0, 7] (fun a i wr => ∃ j m : Nat, j ≤ s ∧ i = .int .i64 (j - 1) ∧ a = .int .i64 m ∧ m = n / 256 ^ (s - j) ∧ OB 5 w.heap.size wr (.slice (some ⟨w.heap.size, 0, none⟩) s s) (List.replicate j 0 ++ (Num.digits n s).drop j) ∧ Ext w wr) (fun _ i _ => (intOf i + 1).toNat)
  case atStart => exact ⟨s, n, Nat.le_refl _, rfl, rfl, by simp, by rw [List.drop_of_length_le (by rw [Num.digits_len]; omega), List.append_nil]; exact HB3.out, HE3.out⟩
  case round =>
    obtain ⟨j, m, hj, rfl, rfl, hm, hown, hext⟩ := hrel
    have HO := Lib.hid hown
    clear hown
    by_cases hlt : 0 < j
    · have hdl := Num.digits_len s n
      obtain ⟨i, rfl⟩ : ∃ i, j = i + 1 := ⟨j - 1, by omega⟩
      obtain ⟨hc3, hf3, _⟩ := HO.out.at_ (j := i) (by simp; omega)
      have ht := Num.digits_setD n s hlt hj _ rfl
      rw [← hm] at ht
      have hmd : m / 256 = n / 256 ^ (s - i) := by rw [hm, Nat.div_div_eq_div_mul, ← Nat.pow_succ, show (s - (i + 1)).succ = s - i by omega]
      have HM := Lib.hid hmd
      have hml : m ≤ n := by rw [hm]; exact Nat.div_le_self _ _
      clear hm hmd
      have HT := Lib.hid ht
      clear ht
      generalize (List.replicate (i + 1) 0 ++ (Num.digits n s).drop (i + 1))[i]'(by simp; omega) = old at *
      have hx : n8 (UInt8.ofNat (m % 256)) = ((m % 256 : Nat) : Int) := n8_of (by omega)
      generalize UInt8.ofNat (m % 256) = x at *
      have e1 : ((i + 1 : Nat) : Int) - 1 = (i : Int) := by omega
      rw [e1]
      have g1 : (i : Int) < (s : Int) := by omega
      have g0 : 0 ≤ (i : Int) := by omega
      generalize wr.heap.size = hsz
      go_wp2
      refine ⟨⟨i, m / 256, by omega, rfl, by go_num, HM.out, ?_, hext.setCell (p := ⟨w.heap.size, i, none⟩) (Nat.le_refl _) _⟩, by simp [intOf]⟩
      rw [Nat.add_sub_cancel] at HT
      rw [← HT.out]
      have hst := HO.out.stored i x
      unfold byteV at hst
      rw [hx, show ((m % 256 : Nat) : Int) = (m : Int) % 256 by omega] at hst
      exact hst
    · obtain rfl : j = 0 := by omega
      rw [Nat.sub_zero] at hm
      have ho := HO.out
      rw [List.replicate_zero, List.drop_zero, List.nil_append] at ho
      have HM := Lib.hid hm
      clear hm
      go_wp2
      go_ret2
      exact ⟨_, by rw [← HM.out, nat_eq0]; rfl, ho, hext⟩
set_option maxRecDepth 100000 in
set_option maxHeartbeats 400000 in
theorem rput_any (n : Nat) (w : World) (hn : n < 9223372036854775808) :
    Calls Try.prog 54 #[.int .i64 n] w fun e w' => ∃ v, e = .returned v ∧ OB 5 w.heap.size w' v (Num.put n) ∧ Ext w w' := by
  have h0 : (0 : Int) ≤ (n : Int) := by omega
  by_cases h1 : n < 240
  · have g1 : (n : Int) < 240 := by omega
    go_enter Try.func54, Try.ntmps54
    go_wp2
    go_ret
    refine ⟨_, rfl, ?_, (Ext.refl _).alloc _⟩
    rw [Num.put_1 h1]
    exact OB.lit1 w _ _ (byteV_of (by omega))
  have HN := Lib.hid hn
  clear hn
  by_cases h2 : n < 2288
  · obtain ⟨m, rfl⟩ : ∃ m, n = m + 240 := ⟨n - 240, by omega⟩
    have g1 : ¬ ((m + 240 : Nat) : Int) < 240 := by omega
    have g2 : ((m + 240 : Nat) : Int) < 2288 := by omega
    have g3 : ((m + 240 : Nat) : Int) - 240 = (m : Int) := by omega
    have g4 : m < 2048 := by omega
    have HP := Lib.hid (Num.put_2 h1 h2)
    rw [Nat.add_sub_cancel] at HP
    clear h1 h2
    generalize ((m + 240 : Nat) : Int) = z at *
    go_enter Try.func54, Try.ntmps54
    go_wp2
    go_ret
    refine ⟨_, rfl, ?_, (Ext.refl _).alloc _⟩
    rw [HP.out]
    refine OB.lit2 w _ _ _ _ ?_ ?_
    · rw [byteV_of (by omega)]; congr 1
    · rw [byteV_of (by omega)]; congr 1
  · have g1 : ¬ (n : Int) < 240 := by omega
    have g2 : ¬ (n : Int) < 2288 := by omega
    have hn := HN.out
    have hwd : Num.width n ≤ 8 := (Num.width_le 8 n (by omega)).2 (by omega)
    have hw2 : ¬ Num.width n ≤ 1 := fun h => by have := (Num.width_le 1 n (by omega)).1 h; omega
    have hp := Num.put_3 h1 h2
    have HWE := Lib.hid (fun (j : Nat) (h : 1 ≤ j) => Num.width_eq (n := n) h)
    generalize hk : Num.width n = k at *
    have HK := Lib.hid hk
    have HP := Lib.hid hp
    clear hk hp h1 h2
    go_enter Try.func54, Try.ntmps54
    go_wp2
    go_loopw [3] (fun i wr => ∃ j : Nat, 2 ≤ j ∧ j ≤ k ∧ i = .int .i64 j ∧ Ext w wr) (fun i _ => 8 - (intOf i).toNat)
    case atStart => exact ⟨2, by omega, by omega, rfl, Ext.refl _⟩
    case round =>
      obtain ⟨j, hj2, hjk, rfl, hext⟩ := hrel
      by_cases h8 : j < 8
      · have g8 : (j : Int) < 8 := by omega
        have hF := Lib.hid (fun w => rfix_any n j w hn (by omega) (by omega))
        have hdl := Num.digits_len j n
        by_cases hjk2 : k = j
        · subst hjk2
          have hq : (n / 256 ^ k == 0) = true := by rw [HWE.out k (by omega)]; simp
          rw [hq] at hF
          clear hq
          have hbl : byteV (UInt8.ofNat (246 + k)) = .int .u8 (246 + (k : Int)) := by rw [byteV_of (by omega)]; congr 1
          go_wp2_with (first
            | (go_at_call 73; refine (hF.out _).mono ?_; rintro e w1 ⟨v1, rfl, ho1, he1⟩; have HO1 := Lib.hid ((ho1.ext ((Ext.refl _).alloc (.cells #[.int .u8 (246 + (k : Int))] 5))).rb.rd); have HL1 := Lib.hid ((OB.lit1 w1 _ _ hbl).low he1.size).own; rw [hdl] at HO1; clear ho1)
            | (at_builtin; refine wpList_app rfl elemB _ _ _ rfl wr.heap.size _ 1 _ rfl HL1.out _ k _ rfl HO1.out (one_byteV _) (by omega) (by unfold maxLen; omega) ((he1.alloc _).size) ?_; intro v2 w2 ha))
          go_ret
          refine ⟨_, rfl, ?_, hext.trans (ha.ext (he1.alloc _) rfl ((OB.lit1 w1 _ _ hbl).low he1.size).own)⟩
          rw [HP.out]
          exact (OB.app (l := [UInt8.ofNat (246 + k)]) (by rw [hdl]; exact ha.own)).low hext.size
        · have hq : (n / 256 ^ j == 0) = false := by rw [HWE.out j (by omega)]; simp; omega
          rw [hq] at hF
          clear hq
          go_wp2_with (go_at_call 73; refine (hF.out _).mono ?_; rintro e w1 ⟨v1, rfl, ho1, he1⟩)
          go_roundw
          case rel => exact ⟨j + 1, by omega, by omega, by go_num, hext.trans he1⟩
          case measure => simp [intOf]; omega
      · obtain rfl : j = 8 := by omega
        obtain rfl : k = 8 := by omega
        have hF := Lib.hid (fun w => rfix_any n 8 w hn (by omega) (by omega))
        have hdl := Num.digits_len 8 n
        have hq : (n / 256 ^ 8 == 0) = true := by rw [HWE.out 8 (by omega)]; simp
        rw [hq] at hF
        clear hq
        have hbl : byteV (UInt8.ofNat (246 + 8)) = .int .u8 254 := byteV_of (by omega)
        go_wp2_with (first
          | (go_at_call 73; refine (hF.out _).mono ?_; rintro e w1 ⟨v1, rfl, ho1, he1⟩; have HO1 := Lib.hid ((ho1.ext ((Ext.refl _).alloc (.cells #[.int .u8 254] 5))).rb.rd); have HL1 := Lib.hid ((OB.lit1 w1 _ _ hbl).low he1.size).own; rw [hdl] at HO1; clear ho1)
          | (at_builtin; refine wpList_app rfl elemB _ _ _ rfl wr.heap.size _ 1 _ rfl HL1.out _ 8 _ rfl HO1.out (one_byteV _) (by omega) (by unfold maxLen; omega) ((he1.alloc _).size) ?_; intro v2 w2 ha))
        go_ret
        refine ⟨_, rfl, ?_, hext.trans (ha.ext (he1.alloc _) rfl ((OB.lit1 w1 _ _ hbl).low he1.size).own)⟩
        rw [HP.out]
        exact (OB.app (l := [UInt8.ofNat (246 + 8)]) (by rw [hdl]; exact ha.own)).low hext.size

end Go.Proofs.Ytpmikcklkddocaa
