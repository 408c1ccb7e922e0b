/-
  NumRead, packed: what the claim needs of them.
-/
import Derived.Test.YtpmpjjhchkoboaaGreatDoorPc11
import Derived.Test.YtpmpjjhchkoboaaGreatDoorPc10
import Derived.Test.YtpmpjjhchkoboaaGreatDoorPc04
open Go.Lib (hid)
set_option maxHeartbeats 400000
set_option maxRecDepth 100000
namespace Go.Proofs.YtpmpjjhchkoboaaGreatDoor
open Go.RowKit Go.Ox
abbrev NR (K : Nat → Prop) (w : World) (g : Nat) (s : Num.St) : Prop := Rdr K 136 w g s.l s.bad
abbrev RR (K : Nat → Prop) (w : World) (g : Nat) (s : Num.St) : Prop := Rdr K 100 w g s.l s.bad
variable {K : Nat → Prop}
theorem bad_any (g : Nat) (s : Num.St) (w : World) (h0 : NR K w g s) :
 Calls Tryz.prog 102 #[.pointer (some ⟨g, 0, none⟩)] w fun e w' => e = .returned (.bool s.bad) ∧ w = w' := by
 obtain ⟨hc1, hf1, hf0⟩ := h0.mark
 go_enter Tryz.func102, Tryz.ntmps102
 go_wp2
 go_ret
 exact ⟨rfl, rfl⟩
theorem fail_any (g : Nat) (s : Num.St) (w : World) (h0 : NR K w g s) :
 Calls Tryz.prog 99 #[.pointer (some ⟨g, 0, none⟩)] w fun e w' => e = .returned (.int .i64 0) ∧ NR K w' g (Num.failP s) ∧ ExtG g w w' := by
 obtain ⟨hc1, hf1, hf0⟩ := h0.mark
 have HS := hid (h0.setMark true)
 clear h0
 go_enter Tryz.func99, Tryz.ntmps99
 go_wp2
 go_ret
 exact ⟨rfl, HS.out.1, HS.out.2⟩
theorem bytes_no (g : Nat) (n : Int) (s : Num.St) (w : World) (h0 : NR K w g s) (h : s.bad = true ∨ n < 0 ∨ (s.l.length : Int) < n) :
 Calls Tryz.prog 101 #[.pointer (some ⟨g, 0, none⟩), .int .i64 n] w fun e w' => e = .returned (.slice none 0 0) ∧ NR K w' g (Num.failP s) ∧ ExtG g w w' := by
 obtain ⟨A, c, hrb, hc0, hc1, hf1, hf0⟩ := h0.open_
 have HB := hid (bad_any g s w h0)
 have HF := hid (fun w (h0 : NR K w g s) => fail_any g s w h0)
 have H0 := hid h0
 clear h0 hrb
 obtain ⟨l, bad⟩ := s
 dsimp only at *
 cases bad with
 | true =>
  clear h
  go_enter Tryz.func101, Tryz.ntmps101
  go_wp2_with (first
   | (go_at_call 102; refine HB.out.mono ?_; rintro e w' ⟨rfl, rfl⟩)
   | (go_at_call 99; refine (HF.out _ H0.out).mono ?_; rintro e w1 ⟨rfl, hr1, he1⟩))
  go_ret
  exact ⟨rfl, hr1, he1⟩
 | false =>
  by_cases hn : n < 0
  · clear h
    go_enter Tryz.func101, Tryz.ntmps101
    go_wp2_with (first
     | (go_at_call 102; refine HB.out.mono ?_; rintro e w' ⟨rfl, rfl⟩)
     | (go_at_call 99; refine (HF.out _ H0.out).mono ?_; rintro e w1 ⟨rfl, hr1, he1⟩))
    go_ret
    exact ⟨rfl, hr1, he1⟩
  · have hn2 : (l.length : Int) < n := by rcases h with h | h | h <;> first | omega | cases h
    clear h
    go_enter Tryz.func101, Tryz.ntmps101
    go_wp2_with (first
     | (go_at_call 102; refine HB.out.mono ?_; rintro e w' ⟨rfl, rfl⟩)
     | (go_at_call 99; refine (HF.out _ H0.out).mono ?_; rintro e w1 ⟨rfl, hr1, he1⟩))
    go_ret
    exact ⟨rfl, hr1, he1⟩
theorem bytes_yes (g n : Nat) (l : List UInt8) (w : World) (h0 : NR K w g ⟨l, false⟩) (h : n ≤ l.length) (hl : l.length ≤ 1000000) :
 Calls Tryz.prog 101 #[.pointer (some ⟨g, 0, none⟩), .int .i64 n] w fun e w' => ∃ v, e = .returned v ∧ OB 5 w.heap.size w' v (l.take n) ∧ NR K w' g ⟨l.drop n, false⟩ ∧ ExtG g w w' := by
 obtain ⟨A, c, hik, hrb, hc0, hc1, hf1, hf0⟩ := h0.openK
 dsimp only at hik hrb hc0 hc1
 have HB := hid (bad_any g _ w h0)
 have hcut := RB.loK elemB hrb hik h n rfl
 obtain ⟨A', hcut, hrd, hik2⟩ := hcut
 have HIK := hid hik2
 clear hik hik2
 have htk := hrb.takeS h
 have hnc := hrb.nc.1
 have hC := hid (clone_any (.slice A n c) (l.take n) w htk (by simp; omega))
 have HD := hid hrd
 have H0 := hid h0
 have g1 : (n : Int) ≤ (l.length : Int) := by omega
 have g2 : (n : Int) ≤ (c : Int) := by omega
 have hlt := h0.lt
 clear h0 hrb htk hrd h hnc
 go_enter Tryz.func101, Tryz.ntmps101
 go_wp2_with (first
  | (go_at_call 102; refine HB.out.mono ?_; rintro e w' ⟨rfl, rfl⟩)
  | (go_at_call 95; refine hC.out.mono ?_; rintro e w1 ⟨v1, rfl, ho1, he1⟩; have H1 := hid (H0.out.ext he1); obtain ⟨A1, c1, hrb1, hc01, hc11, hf11, hf01⟩ := H1.out.open_; have hc02 := he1.cell hc0; rw [hc02] at hc01; clear hc01 hc11 hrb1))
 go_ret
 obtain ⟨q1, q2⟩ := H1.out.setRest (HD.out.ext he1) HIK.out
 refine ⟨_, rfl, ho1.extG q2 (fun e => ?_), q1, (ExtG.of he1).trans q2⟩
 have := (ho1.own.lt g e).1
 omega
theorem bytes_any (g : Nat) (n : Int) (s : Num.St) (w : World) (h0 : NR K w g s) (hl : s.l.length ≤ 1000000) :
 Calls Tryz.prog 101 #[.pointer (some ⟨g, 0, none⟩), .int .i64 n] w fun e w' => ∃ v, e = .returned v ∧ OB 5 w.heap.size w' v (Num.bytesP n s).2 ∧ NR K w' g (Num.bytesP n s).1 ∧ ExtG g w w' := by
 by_cases h : s.bad = true ∨ n < 0 ∨ (s.l.length : Int) < n
 · refine (bytes_no g n s w h0 h).mono ?_
   rintro e w' ⟨rfl, h1, h2⟩
   rw [Num.bytesP_no h]
   exact ⟨_, rfl, World.ownsRow_nil _ _ _ _, h1, h2⟩
 · obtain ⟨l, b⟩ := s
   obtain ⟨n, rfl⟩ : ∃ m : Nat, n = m := ⟨n.toNat, by omega⟩
   have hb : b = false := by cases b <;> simp_all
   subst hb
   simp only at *
   refine (bytes_yes g n l w h0 (by omega) hl).mono ?_
   rintro e w' ⟨v, rfl, h1, h2, h3⟩
   rw [Num.bytesP_yes rfl (show n ≤ l.length by omega)]
   exact ⟨_, rfl, h1, h2, h3⟩
theorem or_byte (a : Nat) (b : UInt8) (ha : a * 256 + 255 < 18446744073709551616) : bits .or .u64 ((a * 256 : Nat) : Int) (n8 b) = ((a * 256 + b.toNat : Nat) : Int) := by
 have hb := b.toNat_lt
 unfold n8
 show IntKind.u64.wrap ((BitVec.ofInt 64 ((a * 256 : Nat) : Int) ||| BitVec.ofInt 64 (b.toNat : Int)).toNat : Int) = _
 rw [BitVec.toNat_or, BitVec.ofInt_natCast, BitVec.ofInt_natCast, BitVec.toNat_ofNat, BitVec.toNat_ofNat, Nat.mod_eq_of_lt (by omega), Nat.mod_eq_of_lt (by omega)]
 rw [show a * 256 = a <<< 8 by rw [Nat.shiftLeft_eq], ← Nat.shiftLeft_add_eq_or_of_lt (by omega), Nat.shiftLeft_eq]
 rw [IntKind.wrap_u64]
 omega
theorem fixed_any (g : Nat) (n : Int) (s : Num.St) (w : World) (h0 : NR K w g s) (hl : s.l.length ≤ 1000000) :
 Calls Tryz.prog 96 #[.pointer (some ⟨g, 0, none⟩), .int .i64 n] w fun e w' => e = .returned (.int .i64 ((Num.fixedP n s).2 : Nat)) ∧ NR K w' g (Num.fixedP n s).1 ∧ ExtG g w w' := by
 have HF := hid (fun w s (h0 : NR K w g s) => fail_any g s w h0)
 have H0 := hid h0
 clear h0
 by_cases hr : n < 1 ∨ 8 < n
 · have hp := hid (Num.fixedP_no (s := s) hr)
   rw [hp.out]
   dsimp only
   by_cases h1 : n < 1
   · clear hr
     go_enter Tryz.func96, Tryz.ntmps96
     go_wp2_with (go_at_call 99; refine (HF.out _ _ H0.out).mono ?_; rintro e w1 ⟨rfl, hr1, he1⟩)
     go_ret
     exact ⟨rfl, hr1, he1⟩
   · have h2 : 8 < n := by omega
     clear hr
     go_enter Tryz.func96, Tryz.ntmps96
     go_wp2_with (go_at_call 99; refine (HF.out _ _ H0.out).mono ?_; rintro e w1 ⟨rfl, hr1, he1⟩)
     go_ret
     exact ⟨rfl, hr1, he1⟩
 · have HY := hid (bytes_any g n s w H0.out hl)
   have hout := Num.bytesP_out n s
   have HPB := hid (Num.fixedP_bad (s := s) hr)
   have HPO := hid (Num.fixedP_ok (s := s) hr)
   generalize hb : Num.bytesP n s = t at *
   obtain ⟨t, o⟩ := t
   dsimp only at *
   clear hb
   have hol : o.length ≤ 8 := by
    rcases hout with h | h
    · omega
    · simp [h]
   have h1 : ¬ n < 1 := by omega
   have h2 : ¬ 8 < n := by omega
   clear hr hout
   go_enter Tryz.func96, Tryz.ntmps96
   go_wp2_with (go_at_call 101; refine HY.out.mono ?_; rintro e w1 ⟨v1, rfl, ho1, hr1, he1⟩; have HO := hid ho1.rb; clear ho1; obtain ⟨A, c, rfl, hrd⟩ := HO.out)
   have HR1 := hid hr1
   clear hr1
   go_loop [5, 20] (fun a i => ∃ k : Nat, k ≤ o.length ∧ i = .int .i64 k ∧ a = .int .u64 (Num.val (o.take k) : Nat)) (fun _ i => o.length - (intOf i).toNat)
   case atStart => exact ⟨0, Nat.zero_le _, rfl, by simp [Num.val_nil]⟩
   case round =>
    obtain ⟨k, hk, rfl, rfl⟩ := hrel
    by_cases hlt : k < o.length
    · obtain ⟨b, q, rfl⟩ := hrd.addr (by omega)
      have hcell := hrd.get (j := k) (u := byteV o[k]) (by rw [List.getElem?_map, List.getElem?_eq_getElem hlt]; rfl)
      unfold byteV at hcell
      have ht := Num.val_take hlt
      have hv := Num.val_lt (o.take k)
      rw [List.length_take, Nat.min_eq_left hk] at hv
      have hv7 : Num.val (o.take k) < 72057594037927936 := Nat.lt_of_lt_of_le hv (by
       have : 256 ^ k ≤ 256 ^ 7 := Nat.pow_le_pow_right (by omega) (by omega)
       simpa using this)
      clear hv
      have HT := hid ht
      clear ht
      have hx := n8_lo o[k]
      have hx2 := n8_hi o[k]
      have ho := or_byte (Num.val (o.take k)) o[k] (by omega)
      generalize Num.val (o.take k) = a at *
      have e1 : ((a * 256 : Nat) : Int) = (a : Int) * 256 := by omega
      rw [e1] at ho
      have g1 : (k : Int) < (o.length : Int) := by omega
      have g0 : 0 ≤ (k : Int) := by omega
      go_wp2
      refine ⟨⟨k + 1, by omega, by go_num, ?_⟩, by simp [intOf]; omega⟩
      rw [HT.out]
      congr 1
    · obtain rfl : k = o.length := by omega
      rw [List.take_length]
      have HBD := hid (bad_any g t w1 HR1.out)
      have HFL := hid (fail_any g t w1 HR1.out)
      obtain ⟨tl, tb⟩ := t
      dsimp only at *
      cases tb with
      | true =>
       have HP := hid (HPB.out (.inl rfl))
       clear HPB HPO
       generalize Num.val o = v at *
       go_wp2_with (first
        | (go_at_call 102; refine HBD.out.mono ?_; rintro e w' ⟨rfl, rfl⟩)
        | (go_at_call 99; refine HFL.out.mono ?_; rintro e w2 ⟨rfl, hr2, he2⟩))
       go_ret
       rw [HP.out]
       exact ⟨rfl, hr2, he1.trans he2⟩
      | false =>
       by_cases hv : 9223372036854775807 < Num.val o
       · have HP := hid (HPB.out (.inr hv))
         clear HPB HPO
         generalize Num.val o = v at *
         have hv2 : (9223372036854775807 : Int) < (v : Int) := by omega
         go_wp2_with (first
          | (go_at_call 102; refine HBD.out.mono ?_; rintro e w' ⟨rfl, rfl⟩)
          | (go_at_call 99; refine HFL.out.mono ?_; rintro e w2 ⟨rfl, hr2, he2⟩))
         go_ret
         rw [HP.out]
         exact ⟨rfl, hr2, he1.trans he2⟩
       · have HP := hid (HPO.out (by simp; omega))
         clear HPB HPO
         have HV := hid (Nat.le_of_not_lt hv)
         generalize Num.val o = v at *
         have hv2 : ¬ (9223372036854775807 : Int) < (v : Int) := by omega
         go_wp2_with (first
          | (go_at_call 102; refine HBD.out.mono ?_; rintro e w' ⟨rfl, rfl⟩)
          | (go_at_call 99; refine HFL.out.mono ?_; rintro e w2 ⟨rfl, hr2, he2⟩))
         go_ret
         rw [HP.out]
         exact ⟨rfl, HR1.out, he1⟩
theorem must_no (g : Nat) (n : Int) (is : Bool) (s : Num.St) (w : World) (h0 : NR K w g s) (h : s.bad = true ∨ is = false) :
 Calls Tryz.prog 97 #[.pointer (some ⟨g, 0, none⟩), .int .i64 n, .bool is] w fun e w' => e = .returned (.int .i64 0) ∧ NR K w' g (Num.failP s) ∧ ExtG g w w' := by
 have HB := hid (bad_any g s w h0)
 have HF := hid (fail_any g s w h0)
 obtain ⟨l, bad⟩ := s
 cases bad with
 | true =>
  clear h
  go_enter Tryz.func97, Tryz.ntmps97
  go_wp2_with (first
   | (go_at_call 102; refine HB.out.mono ?_; rintro e w' ⟨rfl, rfl⟩)
   | (go_at_call 99; refine HF.out.mono ?_; rintro e w2 ⟨rfl, hr2, he2⟩))
  go_ret
  exact ⟨rfl, hr2, he2⟩
 | false =>
  cases is with
  | true => simp at h
  | false =>
   clear h
   go_enter Tryz.func97, Tryz.ntmps97
   go_wp2_with (first
    | (go_at_call 102; refine HB.out.mono ?_; rintro e w' ⟨rfl, rfl⟩)
    | (go_at_call 99; refine HF.out.mono ?_; rintro e w2 ⟨rfl, hr2, he2⟩))
   go_ret
   exact ⟨rfl, hr2, he2⟩
theorem must_yes (g : Nat) (n : Int) (l : List UInt8) (w : World) (h0 : NR K w g ⟨l, false⟩) :
 Calls Tryz.prog 97 #[.pointer (some ⟨g, 0, none⟩), .int .i64 n, .bool true] w fun e w' => e = .returned (.int .i64 n) ∧ w = w' := by
 have HB := hid (bad_any g _ w h0)
 go_enter Tryz.func97, Tryz.ntmps97
 go_wp2_with (first
  | (go_at_call 102; refine HB.out.mono ?_; rintro e w' ⟨rfl, rfl⟩))
 go_ret
 exact ⟨rfl, rfl⟩
theorem must_any (g : Nat) (n : Int) (n' : Nat) (is : Bool) (s : Num.St) (w : World) (h0 : NR K w g s) (hn : n = n') :
 Calls Tryz.prog 97 #[.pointer (some ⟨g, 0, none⟩), .int .i64 n, .bool is] w fun e w' => e = .returned (.int .i64 ((Num.mustP n' is s).2 : Nat)) ∧ NR K w' g (Num.mustP n' is s).1 ∧ ExtG g w w' := by
 subst hn
 unfold Num.mustP
 by_cases h : s.bad = true ∨ is = false
 · rw [if_pos h]
   exact must_no g n' is s w h0 h
 · rw [if_neg h]
   obtain ⟨l, b⟩ := s
   have hb : b = false := by cases b <;> simp_all
   have hi : is = true := by cases is <;> simp_all
   subst hb hi
   exact (must_yes g n' l w h0).mono fun e w' ⟨q1, q2⟩ => by subst q2; exact ⟨q1, h0, ExtG.refl _ _⟩
theorem num_any (g : Nat) (s : Num.St) (w : World) (h0 : NR K w g s) (hl : s.l.length ≤ 1000000) :
 Calls Tryz.prog 49 #[.pointer (some ⟨g, 0, none⟩)] w fun e w' => e = .returned (.int .i64 ((Num.numP s).2 : Nat)) ∧ NR K w' g (Num.numP s).1 ∧ ExtG g w w' := by
 have HF := hid (fixed_any g 1 s w h0 hl)
 have hb := Num.fixedP_byte s
 have hl1 := Num.fixedP_len 1 s
 have HP1 := hid (fun s1 c h => @Num.numP_1 s s1 c h)
 have HP2 := hid (fun s1 s2 c d h => @Num.numP_2 s s1 s2 c d h)
 have HP3 := hid (fun s1 s2 c n h => @Num.numP_3 s s1 s2 c n h)
 have HP4 := hid (fun s1 c h => @Num.numP_4 s s1 c h)
 generalize ht : Num.fixedP 1 s = t at *
 obtain ⟨s1, c⟩ := t
 dsimp only at *
 by_cases c1 : c < 240
 · have HP := hid (HP1.out s1 c rfl c1)
   clear HP1 HP2 HP3 HP4 ht
   have g1 : (c : Int) < 240 := by omega
   go_enter Tryz.func49, Tryz.ntmps49
   go_wp2_with (first
    | (go_at_call 96; refine HF.out.mono ?_; rintro e w1 ⟨rfl, hr1, he1⟩))
   go_ret
   rw [HP.out]
   exact ⟨rfl, hr1, he1⟩
 have g1 : ¬ (c : Int) < 240 := by omega
 by_cases c2 : c < 248
 · obtain ⟨c, rfl⟩ : ∃ m, c = m + 240 := ⟨c - 240, by omega⟩
   have hb2 := Num.fixedP_byte s1
   have HF2 := hid (fun w (h0 : NR K w g s1) => fixed_any g 1 s1 w h0 (by omega))
   have HPP := hid (fun s2 d => HP2.out s1 s2 (c + 240) d rfl c1 c2)
   clear HP1 HP2 HP3 HP4 ht
   generalize ht2 : Num.fixedP 1 s1 = t at *
   obtain ⟨s2, d⟩ := t
   dsimp only at *
   have HP := hid (HPP.out s2 d rfl)
   clear HPP ht2
   have g2 : ((c + 240 : Nat) : Int) < 248 := by omega
   have g3 : ((c + 240 : Nat) : Int) - 240 = c := by omega
   have HM := hid (fun n w (h0 : NR K w g s2) hn => must_any g n (240 + (c + 240 - 240) * 256 + d) true s2 w h0 hn)
   generalize Num.mustP (240 + (c + 240 - 240) * 256 + d) true s2 = q at *
   generalize ((c + 240 : Nat) : Int) = z at *
   go_enter Tryz.func49, Tryz.ntmps49
   go_wp2_with (first
    | (go_at_call 96; refine HF.out.mono ?_; rintro e w1 ⟨rfl, hr1, he1⟩)
    | (go_at_call 96; refine (HF2.out _ hr1).mono ?_; rintro e w2 ⟨rfl, hr2, he2⟩)
    | (go_at_call 97; refine (HM.out _ _ hr2 (by omega)).mono ?_; rintro e w3 ⟨rfl, hr3, he3⟩))
   go_ret
   rw [HP.out]
   exact ⟨rfl, hr3, (he1.trans he2).trans he3⟩
 have g2 : ¬ (c : Int) < 248 := by omega
 by_cases c3 : c ≤ 254
 · have g3 : (c : Int) ≤ 254 := by omega
   have HF2 := hid (fun k w (h0 : NR K w g s1) => fixed_any g k s1 w h0 (by omega))
   have HPP := hid (fun s2 d => HP3.out s1 s2 c d rfl c1 c2 c3)
   have hk : ((c : Int) - 246) = ((c - 246 : Nat) : Int) := by omega
   have hv := Num.fixedP_val (c - 246 : Nat) s1
   clear HP1 HP2 HP3 HP4 ht
   generalize ht2 : Num.fixedP (c - 246 : Nat) s1 = t at *
   obtain ⟨s2, n⟩ := t
   dsimp only at *
   have HP := hid (HPP.out s2 n rfl)
   have HQ := hid ht2
   have HK := hid hk
   have HN := hid hv
   clear HPP ht2 hk
   have HS := hid (fun w => size_any n w (by omega))
   have hpl := Num.put_le n
   have HM := hid (fun is w (h0 : NR K w g s2) => must_any g n n is s2 w h0 rfl)
   clear hv
   by_cases c4 : 2288 ≤ n
   · have g4 : (2288 : Int) ≤ (n : Int) := by omega
     by_cases c5 : (Num.put n).length = c - 245
     · have g5 : (((Num.put n).length : Int) == (c : Int) - 246 + 1) = true := by simp; omega
       have hd : (decide (2288 ≤ n) && (Num.put n).length == c - 245) = true := by simp [c4, c5]
       rw [hd] at HP
       clear hd c5
       generalize (Num.put n).length = q at *
       go_enter Tryz.func49, Tryz.ntmps49
       go_wp2_with (first
        | (go_at_call 96; with_reducible refine HF.out.mono ?_; rintro e w1 ⟨rfl, hr1, he1⟩)
        | (go_at_call 96; rw [HK.out]; refine (HF2.out _ _ hr1).mono ?_; rw [HQ.out]; rintro e w2 ⟨rfl, hr2, he2⟩)
        | (go_at_call 98; refine (HS.out _).mono ?_; rintro e w' ⟨rfl, rfl⟩)
        | (go_at_call 97; refine (HM.out _ _ hr2).mono ?_; rintro e w3 ⟨rfl, hr3, he3⟩))
       go_ret
       rw [HP.out]
       exact ⟨rfl, hr3, (he1.trans he2).trans he3⟩
     · have g5 : (((Num.put n).length : Int) == (c : Int) - 246 + 1) = false := by simp; omega
       have hd : (decide (2288 ≤ n) && (Num.put n).length == c - 245) = false := by simp [c4, c5]
       rw [hd] at HP
       clear hd c5
       generalize (Num.put n).length = q at *
       go_enter Tryz.func49, Tryz.ntmps49
       go_wp2_with (first
        | (go_at_call 96; with_reducible refine HF.out.mono ?_; rintro e w1 ⟨rfl, hr1, he1⟩)
        | (go_at_call 96; rw [HK.out]; refine (HF2.out _ _ hr1).mono ?_; rw [HQ.out]; rintro e w2 ⟨rfl, hr2, he2⟩)
        | (go_at_call 98; refine (HS.out _).mono ?_; rintro e w' ⟨rfl, rfl⟩)
        | (go_at_call 97; refine (HM.out _ _ hr2).mono ?_; rintro e w3 ⟨rfl, hr3, he3⟩))
       go_ret
       rw [HP.out]
       exact ⟨rfl, hr3, (he1.trans he2).trans he3⟩
   · have g4 : ¬ (2288 : Int) ≤ (n : Int) := by omega
     have hd : (decide (2288 ≤ n) && (Num.put n).length == c - 245) = false := by simp [c4]
     rw [hd] at HP
     clear hd HS hpl
     go_enter Tryz.func49, Tryz.ntmps49
     go_wp2_with (first
      | (go_at_call 96; with_reducible refine HF.out.mono ?_; rintro e w1 ⟨rfl, hr1, he1⟩)
      | (go_at_call 96; rw [HK.out]; refine (HF2.out _ _ hr1).mono ?_; rw [HQ.out]; rintro e w2 ⟨rfl, hr2, he2⟩)
      | (go_at_call 97; refine (HM.out _ _ hr2).mono ?_; rintro e w3 ⟨rfl, hr3, he3⟩))
     go_ret
     rw [HP.out]
     exact ⟨rfl, hr3, (he1.trans he2).trans he3⟩
 · have HP := hid (HP4.out s1 c rfl c3)
   clear HP1 HP2 HP3 HP4 ht
   have g3 : ¬ (c : Int) ≤ 254 := by omega
   have HL := hid (fun w (h0 : NR K w g s1) => fail_any g s1 w h0)
   go_enter Tryz.func49, Tryz.ntmps49
   go_wp2_with (first
    | (go_at_call 96; refine HF.out.mono ?_; rintro e w1 ⟨rfl, hr1, he1⟩)
    | (go_at_call 99; refine (HL.out _ hr1).mono ?_; rintro e w2 ⟨rfl, hr2, he2⟩))
   go_ret
   rw [HP.out]
   exact ⟨rfl, hr2, he1.trans he2⟩
theorem done_any (g : Nat) (s : Num.St) (w : World) (h0 : NR K w g s) :
 Calls Tryz.prog 57 #[.pointer (some ⟨g, 0, none⟩)] w fun e w' => e = .returned (.int .i64 (if s.bad = true ∨ s.l ≠ [] then 10 else 0)) ∧ w = w' := by
 obtain ⟨A, c, hrb, hc0, hc1, hf1, hf0⟩ := h0.open_
 have HB := hid (bad_any g s w h0)
 obtain ⟨l, bad⟩ := s
 dsimp only at *
 cases bad with
 | true =>
  rw [if_pos (.inl rfl)]
  go_enter Tryz.func57, Tryz.ntmps57
  go_wp2_with (first
   | (go_at_call 102; refine HB.out.mono ?_; rintro e w' ⟨rfl, rfl⟩))
  go_ret
  exact ⟨rfl, rfl⟩
 | false =>
  by_cases hl : l = []
  · subst hl
    rw [if_neg (by simp)]
    go_enter Tryz.func57, Tryz.ntmps57
    go_wp2_with (first
     | (go_at_call 102; refine HB.out.mono ?_; rintro e w' ⟨rfl, rfl⟩))
    go_ret
    exact ⟨rfl, rfl⟩
  · rw [if_pos (.inr hl)]
    have hp : 0 < l.length := List.length_pos_iff.2 hl
    have hp1 : (0 : Int) < (l.length : Int) := by omega
    generalize l.length = n at *
    go_enter Tryz.func57, Tryz.ntmps57
    go_wp2_with (first
     | (go_at_call 102; refine HB.out.mono ?_; rintro e w' ⟨rfl, rfl⟩))
    go_ret
    exact ⟨rfl, rfl⟩
theorem from_any (v : Value) (l : List UInt8) (w : World) (h0 : RB w v l) (hl : l.length ≤ 1000000) :
 Calls Tryz.prog 48 #[v] w fun e w' => ∃ g, e = .returned (.pointer (some ⟨g, 0, none⟩)) ∧ NR (fun k => k < w'.heap.size) w' g ⟨l, false⟩ ∧ Ext w w' ∧ w.heap.size ≤ g := by
 have hC := hid (fun w h0 => clone_any v l w h0 (by omega))
 go_enter Tryz.func48, Tryz.ntmps48
 go_wp2_with (first
  | (go_at_call 95; refine (hC.out _ h0).mono ?_; rintro e w1 ⟨v1, rfl, ho1, he1⟩; obtain ⟨A1, c1, rfl⟩ := ho1.form; have HO1 := hid ho1.rb; clear ho1))
 go_ret
 refine ⟨_, rfl, (Rdr.new HO1.out _ _).weak (fun b hb => by simp; omega), he1.alloc _, he1.size⟩
end Go.Proofs.YtpmpjjhchkoboaaGreatDoor
namespace Go.Proofs.YtpmpjjhchkoboaaGreatDoor
open Go.RowKit Go.Ox
variable {K : Nat → Prop}
theorem rbytes_no (g : Nat) (n : Int) (s : Num.St) (w : World) (h0 : RR K w g s) (h : s.bad = true ∨ n < 0 ∨ (s.l.length : Int) < n) :
 Calls Tryz.prog 64 #[.pointer (some ⟨g, 0, none⟩), .int .i64 n] w fun e w' => e = .returned (.slice none 0 0) ∧ RR K w' g (Num.failP s) ∧ ExtG g w w' := by
 obtain ⟨A, c, hrb, hc0, hc1, hf1, hf0⟩ := h0.open_
 have HS := hid (h0.setMark true)
 clear h0 hrb
 obtain ⟨l, bad⟩ := s
 dsimp only at *
 cases bad with
 | true =>
  clear h
  go_enter Tryz.func64, Tryz.ntmps64
  go_wp2
  go_ret
  exact ⟨rfl, HS.out.1, HS.out.2⟩
 | false =>
  by_cases hn : n < 0
  · clear h
    go_enter Tryz.func64, Tryz.ntmps64
    go_wp2
    go_ret
    exact ⟨rfl, HS.out.1, HS.out.2⟩
  · have hn2 : (l.length : Int) < n := by rcases h with h | h | h <;> first | omega | cases h
    clear h
    go_enter Tryz.func64, Tryz.ntmps64
    go_wp2
    go_ret
    exact ⟨rfl, HS.out.1, HS.out.2⟩
theorem rbytes_yes (g n : Nat) (l : List UInt8) (w : World) (h0 : RR K w g ⟨l, false⟩) (h : n ≤ l.length) (hl : l.length ≤ 1000000) :
 Calls Tryz.prog 64 #[.pointer (some ⟨g, 0, none⟩), .int .i64 n] w fun e w' => ∃ v, e = .returned v ∧ OB 5 w.heap.size w' v (l.take n) ∧ RR K w' g ⟨l.drop n, false⟩ ∧ ExtG g w w' := by
 obtain ⟨A, c, hik, hrb, hc0, hc1, hf1, hf0⟩ := h0.openK
 dsimp only at hik hrb hc0 hc1
 obtain ⟨A', hcut, hrd, hik2⟩ := RB.loK elemB hrb hik h n rfl
 have HIK := hid hik2
 clear hik hik2
 have htk := hrb.takeS h
 have hnc := hrb.nc.1
 have HT := hid htk.rd
 have HD := hid hrd
 have H0 := hid h0
 have g1 : (n : Int) ≤ (l.length : Int) := by omega
 have g2 : (n : Int) ≤ (c : Int) := by omega
 have hlt := h0.lt
 have HO := hid (own_empty w)
 have hln : (l.take n).length = n := by rw [List.length_take, Nat.min_eq_left h]
 rw [hln] at HT
 have HLN := hid hln
 clear h0 hrb htk hrd h hnc hln
 go_enter Tryz.func64, Tryz.ntmps64
 go_wp2_with (at_builtin; refine wpList_app rfl elemB _ _ _ rfl w.heap.size _ 0 [] rfl HO.out _ n _ rfl (HT.out.ext ((Ext.refl _).alloc _)) (one_byteV _) (by omega) (by unfold maxLen; omega) (by simp) ?_; intro v1 w1 ha; have he1 := ha.ext ((Ext.refl _).alloc _) rfl HO.out; have H1 := hid (H0.out.ext he1); obtain ⟨A1, c1, hrb1, hc01, hc11, hf11, hf01⟩ := H1.out.open_; have hc02 := he1.cell hc0; rw [hc02] at hc01; clear hc01 hc11 hrb1)
 go_ret
 obtain ⟨q1, q2⟩ := H1.out.setRest (HD.out.ext he1) HIK.out
 have ho1 : OB 5 w.heap.size w1 v1 (l.take n) := by
  have := ha.own
  unfold OB
  rw [HLN.out]
  simpa using this
 refine ⟨_, rfl, ho1.extG q2 (fun e => ?_), q1, (ExtG.of he1).trans q2⟩
 have := (ho1.own.lt g e).1
 omega
theorem rbytes_any (g : Nat) (n : Int) (s : Num.St) (w : World) (h0 : RR K w g s) (hl : s.l.length ≤ 1000000) :
 Calls Tryz.prog 64 #[.pointer (some ⟨g, 0, none⟩), .int .i64 n] w fun e w' => ∃ v, e = .returned v ∧ OB 5 w.heap.size w' v (Num.bytesP n s).2 ∧ RR K w' g (Num.bytesP n s).1 ∧ ExtG g w w' := by
 by_cases h : s.bad = true ∨ n < 0 ∨ (s.l.length : Int) < n
 · refine (rbytes_no g n s w h0 h).mono ?_
   rintro e w' ⟨rfl, h1, h2⟩
   rw [Num.bytesP_no h]
   exact ⟨_, rfl, World.ownsRow_nil _ _ _ _, h1, h2⟩
 · obtain ⟨l, b⟩ := s
   obtain ⟨n, rfl⟩ : ∃ m : Nat, n = m := ⟨n.toNat, by omega⟩
   have hb : b = false := by cases b <;> simp_all
   subst hb
   simp only at *
   refine (rbytes_yes g n l w h0 (by omega) hl).mono ?_
   rintro e w' ⟨v, rfl, h1, h2, h3⟩
   rw [Num.bytesP_yes rfl (show n ≤ l.length by omega)]
   exact ⟨_, rfl, h1, h2, h3⟩
theorem rfixed_any (g : Nat) (n : Int) (s : Num.St) (w : World) (h0 : RR K w g s) (hl : s.l.length ≤ 1000000) :
 Calls Tryz.prog 109 #[.pointer (some ⟨g, 0, none⟩), .int .i64 n] w fun e w' => e = .returned (.int .i64 ((Num.fixedP n s).2 : Nat)) ∧ RR K w' g (Num.fixedP n s).1 ∧ ExtG g w w' := by
 by_cases hr : n < 1 ∨ 8 < n
 · have HP := hid (Num.fixedP_no (s := s) hr)
   obtain ⟨A, c, hrb, hc0, hc1, hf1, hf0⟩ := h0.open_
   have HS := hid (h0.setMark true)
   clear h0 hrb
   by_cases h1 : n < 1
   · clear hr
     go_enter Tryz.func109, Tryz.ntmps109
     go_wp2
     go_ret
     rw [HP.out]
     exact ⟨rfl, HS.out.1, HS.out.2⟩
   · have h2 : 8 < n := by omega
     clear hr
     go_enter Tryz.func109, Tryz.ntmps109
     go_wp2
     go_ret
     rw [HP.out]
     exact ⟨rfl, HS.out.1, HS.out.2⟩
 · have HY := hid (rbytes_any g n s w h0 hl)
   have HPB := hid (Num.fixedP_bad (s := s) hr)
   have HPO := hid (Num.fixedP_ok (s := s) hr)
   have hok0 := fun t o => @Num.bytesP_ok n s t o
   have hbd0 := fun t o => @Num.bytesP_bad n s t o
   clear h0
   generalize hb : Num.bytesP n s = t at *
   obtain ⟨t, o⟩ := t
   have hok := hok0 t o rfl
   have hbd := hbd0 t o rfl
   clear hok0 hbd0
   dsimp only at *
   clear hb
   have h1 : ¬ n < 1 := by omega
   have h2 : ¬ 8 < n := by omega
   clear hr
   obtain ⟨tl, tb⟩ := t
   cases tb with
   | true =>
    obtain ⟨rfl, _⟩ := hbd rfl
    have HP := hid (HPB.out (.inl rfl))
    clear HPB HPO hok hbd
    go_enter Tryz.func109, Tryz.ntmps109
    go_wp2_with (go_at_call 64; refine HY.out.mono ?_; rintro e w1 ⟨v1, rfl, ho1, hr1, he1⟩; obtain ⟨A, c, rfl⟩ := ho1.form; obtain ⟨hc1, hf1, hf0⟩ := hr1.mark; have HS := hid (hr1.setMark true); clear ho1 hr1)
    go_ret
    rw [HP.out]
    exact ⟨rfl, HS.out.1, he1.trans HS.out.2⟩
   | false =>
    have hol := hok rfl
    clear hok hbd
    obtain ⟨k, rfl⟩ : ∃ k : Nat, n = k := ⟨n.toNat, by omega⟩
    have hol : o.length = k := by omega
    subst hol
    have hp : 0 < o.length := by omega
    have hx2 := n8_hi (o[0]'hp)
    have hx1 := n8_lo (o[0]'hp)
    have htop : o.length = 8 → (9223372036854775807 < Num.val o ↔ (127 : Int) < n8 (o[0]'hp)) := fun h => by
     rw [Num.val_top h]; unfold n8; omega
    obtain ⟨b0, hb0⟩ : ∃ b0, o[0]'hp = b0 := ⟨_, rfl⟩
    rw [hb0] at hx1 hx2 htop
    have HB0 := hid hb0
    clear hb0
    by_cases h8 : o.length = 8
    · have htop := htop h8
      have hg8 : ((o.length : Int) == 8) = true := by simp; omega
      clear h8
      by_cases hv : 9223372036854775807 < Num.val o
      · have HP := hid (HPB.out (.inr hv))
        have g7 : (127 : Int) < n8 b0 := htop.1 hv
        clear HPB HPO htop hv
        go_enter Tryz.func109, Tryz.ntmps109
        go_wp2_with (go_at_call 64; refine HY.out.mono ?_; rintro e w1 ⟨v1, rfl, ho1, hr1, he1⟩; obtain ⟨A, c, rfl, hrd⟩ := ho1.rb; obtain ⟨b, q, rfl, hcell⟩ := hrd.byte (k := 0) hp; rw [HB0.out, Nat.add_zero] at hcell; obtain ⟨hc1, hf1, hf0⟩ := hr1.mark; have HS := hid (hr1.setMark true); clear ho1 hr1 hrd)
        go_ret
        rw [HP.out]
        exact ⟨rfl, HS.out.1, he1.trans HS.out.2⟩
      · have HP := hid (HPO.out (by simp; omega))
        have g7 : ¬ (127 : Int) < n8 b0 := fun h => hv (htop.2 h)
        have hval : Num.val o ≤ 9223372036854775807 := Nat.le_of_not_lt hv
        clear HPB HPO htop hv
        have HV := hid hval
        clear hval
        go_enter Tryz.func109, Tryz.ntmps109
        go_wp2_with (go_at_call 64; refine HY.out.mono ?_; rintro e w1 ⟨v1, rfl, ho1, hr1, he1⟩; obtain ⟨A, c, rfl, hrd⟩ := ho1.rb; obtain ⟨b, q, rfl, hcell⟩ := hrd.byte (k := 0) hp; rw [HB0.out, Nat.add_zero] at hcell; obtain ⟨hc1, hf1, hf0⟩ := hr1.mark; have HR1 := hid hr1; have HD := hid hrd; clear ho1 hr1 hrd)
        go_loop [6, 7] (fun a i => ∃ k : Nat, k ≤ o.length ∧ i = .int .i64 k ∧ a = .int .i64 (Num.val (o.take k) : Nat)) (fun _ i => o.length - (intOf i).toNat)
        case atStart => exact ⟨0, Nat.zero_le _, rfl, by simp [Num.val_nil]⟩
        case round =>
         obtain ⟨k, hk, rfl, rfl⟩ := hrel
         by_cases hlt : k < o.length
         · have hcell2 := HD.out.get (j := k) (u := byteV o[k]) (by rw [List.getElem?_map, List.getElem?_eq_getElem hlt]; rfl)
           unfold byteV at hcell2
           have ht := Num.val_take hlt
           have hvt := Num.val_take_le o (k + 1)
           rw [ht] at hvt
           have hv2 := HV.out
           have HT := hid ht
           have hx := n8_lo o[k]
           have hx2 := n8_hi o[k]
           have hx3 : n8 o[k] = (o[k].toNat : Int) := by unfold n8; rfl
           generalize Num.val (o.take k) = a at *
           have hs1 : 256 * (a : Int) + n8 o[k] ≤ 9223372036854775807 := by omega
           have hs2 : 0 ≤ 256 * (a : Int) := by omega
           have hs3 : 256 * (a : Int) ≤ 9223372036854775807 := by omega
           have HX := hid hx3
           clear ht hvt hv2 hx3
           generalize o[k] = z at *
           have g1 : (k : Int) < (o.length : Int) := by omega
           have g0 : 0 ≤ (k : Int) := by omega
           go_wp2
           refine ⟨⟨k + 1, by omega, by go_num, ?_⟩, by simp [intOf]; omega⟩
           rw [HT.out]
           have := HX.out
           congr 1
           omega
         · obtain rfl : k = o.length := by omega
           rw [List.take_length]
           go_wp2
           go_ret
           rw [HP.out]
           exact ⟨rfl, HR1.out, he1⟩
    · have hg8 : ((o.length : Int) == 8) = false := by simp; omega
      have hval : Num.val o ≤ 9223372036854775807 := Num.val_small (by omega)
      have HP := hid (HPO.out (by simp; omega))
      clear HPB HPO htop h8
      have HV := hid hval
      clear hval
      go_enter Tryz.func109, Tryz.ntmps109
      go_wp2_with (go_at_call 64; refine HY.out.mono ?_; rintro e w1 ⟨v1, rfl, ho1, hr1, he1⟩; obtain ⟨A, c, rfl, hrd⟩ := ho1.rb; obtain ⟨b, q, rfl, hcell⟩ := hrd.byte (k := 0) hp; rw [HB0.out, Nat.add_zero] at hcell; obtain ⟨hc1, hf1, hf0⟩ := hr1.mark; have HR1 := hid hr1; have HD := hid hrd; clear ho1 hr1 hrd)
      go_loop [6, 7] (fun a i => ∃ k : Nat, k ≤ o.length ∧ i = .int .i64 k ∧ a = .int .i64 (Num.val (o.take k) : Nat)) (fun _ i => o.length - (intOf i).toNat)
      case atStart => exact ⟨0, Nat.zero_le _, rfl, by simp [Num.val_nil]⟩
      case round =>
       obtain ⟨k, hk, rfl, rfl⟩ := hrel
       by_cases hlt : k < o.length
       · have hcell2 := HD.out.get (j := k) (u := byteV o[k]) (by rw [List.getElem?_map, List.getElem?_eq_getElem hlt]; rfl)
         unfold byteV at hcell2
         have ht := Num.val_take hlt
         have hvt := Num.val_take_le o (k + 1)
         rw [ht] at hvt
         have hv2 := HV.out
         have HT := hid ht
         have hx := n8_lo o[k]
         have hx2 := n8_hi o[k]
         have hx3 : n8 o[k] = (o[k].toNat : Int) := by unfold n8; rfl
         generalize Num.val (o.take k) = a at *
         have hs1 : 256 * (a : Int) + n8 o[k] ≤ 9223372036854775807 := by omega
         have hs2 : 0 ≤ 256 * (a : Int) := by omega
         have hs3 : 256 * (a : Int) ≤ 9223372036854775807 := by omega
         have HX := hid hx3
         clear ht hvt hv2 hx3
         generalize o[k] = z at *
         have g1 : (k : Int) < (o.length : Int) := by omega
         have g0 : 0 ≤ (k : Int) := by omega
         go_wp2
         refine ⟨⟨k + 1, by omega, by go_num, ?_⟩, by simp [intOf]; omega⟩
         rw [HT.out]
         have := HX.out
         congr 1
         omega
       · obtain rfl : k = o.length := by omega
         rw [List.take_length]
         go_wp2
         go_ret
         rw [HP.out]
         exact ⟨rfl, HR1.out, he1⟩
theorem rsize_any (c : Int) (w : World) (h : c < 255) (h0 : 0 ≤ c) :
 Calls Tryz.prog 110 #[.int .i64 c] w fun e w' => e = .returned (.int .i64 (if c < 248 then 2 else c - 245)) ∧ w = w' := by
 by_cases h1 : c < 248
 · go_enter Tryz.func110, Tryz.ntmps110
   go_wp2
   go_ret
   exact ⟨rfl, rfl⟩
 · go_enter Tryz.func110, Tryz.ntmps110
   go_wp2
   go_ret
   exact ⟨rfl, rfl⟩
theorem rput_z (z : Int) (n : Nat) (w : World) (hz : z = (n : Int)) (hn : n < 9223372036854775808) :
 Calls Tryz.prog 106 #[.int .i64 z] w fun e w' => ∃ v, e = .returned v ∧ OB 5 w.heap.size w' v (Num.put n) ∧ Ext w w' := by
 subst hz
 exact rput_any n w hn
theorem ret_int {k : IntKind} {a b : Int} (h : a = b) : Ending.returned (.int k a) = .returned (.int k b) := by rw [h]
theorem rsize_2 (c : Nat) (w : World) (h : c < 248) :
 Calls Tryz.prog 110 #[.int .i64 c] w fun e w' => e = .returned (.int .i64 2) ∧ w = w' := by
 have := rsize_any c w (by omega) (by omega)
 rwa [if_pos (by omega)] at this
theorem rsize_3 (c : Nat) (w : World) (h : c < 255) (h2 : 248 ≤ c) :
 Calls Tryz.prog 110 #[.int .i64 c] w fun e w' => e = .returned (.int .i64 ((c : Int) - 245)) ∧ w = w' := by
 have := rsize_any c w (by omega) (by omega)
 rwa [if_neg (by omega)] at this
theorem rnum_any (g : Nat) (s : Num.St) (w : World) (h0 : RR K w g s) (hl : s.l.length ≤ 1000000) :
 Calls Tryz.prog 62 #[.pointer (some ⟨g, 0, none⟩)] w fun e w' => e = .returned (.int .i64 ((Num.numP s).2 : Nat)) ∧ RR K w' g (Num.numP s).1 ∧ ExtG g w w' := by
 have HB := hid (rbytes_any g 1 s w h0 hl)
 have hb := Num.fixedP_byte s
 have hl1 := Num.fixedP_len 1 s
 have hone := Num.fixedP_1 s
 have HP1 := hid (fun s1 c h => @Num.numP_1 s s1 c h)
 have HP2 := hid (fun s1 s2 c d h => @Num.numP_2 s s1 s2 c d h)
 have HP3 := hid (fun s1 s2 c n h => @Num.numP_3 s s1 s2 c n h)
 have HP4 := hid (fun s1 c h => @Num.numP_4 s s1 c h)
 generalize ht : Num.fixedP 1 s = t at *
 generalize Num.bytesP 1 s = u at *
 obtain ⟨s1, c⟩ := t
 obtain ⟨u, o⟩ := u
 dsimp only at *
 clear h0
 rcases hone with ⟨hub, hs, rfl⟩ | ⟨hub, rfl, b, rfl, hc⟩
 · have HP := hid (HP1.out s1 0 rfl (by omega))
   have HS := hid hs
   clear HP1 HP2 HP3 HP4 ht hs
   obtain ⟨l1, b1⟩ := u
   dsimp only at hub
   subst hub
   go_enter Tryz.func62, Tryz.ntmps62
   go_wp2_with (go_at_call 64; refine HB.out.mono ?_; rintro e w1 ⟨v1, rfl, ho1, hr1, he1⟩; obtain ⟨A, k, rfl⟩ := ho1.form; obtain ⟨hc1, hf1, hf0⟩ := hr1.mark; have HR := hid hr1; clear ho1 hr1)
   go_ret
   rw [HP.out, HS.out]
   exact ⟨rfl, HR.out, he1⟩
 · obtain ⟨l1, b1⟩ := s1
   dsimp only at hub
   subst hub
   have hx : n8 b = (c : Int) := by unfold n8; omega
   have HX := hid hx
   clear hx hc
   by_cases c1 : c < 240
   · have HP := hid (HP1.out _ c rfl c1)
     clear HP1 HP2 HP3 HP4 ht
     have g1 : (c : Int) < 240 := by omega
     go_enter Tryz.func62, Tryz.ntmps62
     go_wp2_with (go_at_call 64; refine HB.out.mono ?_; rintro e w1 ⟨v1, rfl, ho1, hr1, he1⟩; obtain ⟨A, k, rfl, hrd⟩ := ho1.rb; obtain ⟨bb, q, rfl, hcell⟩ := hrd.byte (k := 0) (by simp); rw [List.getElem_cons_zero, HX.out, Nat.add_zero] at hcell; obtain ⟨hc1, hf1, hf0⟩ := hr1.mark; have HR := hid hr1; clear ho1 hr1 hrd)
     go_ret
     rw [HP.out]
     exact ⟨rfl, HR.out, he1⟩
   have g1 : ¬ (c : Int) < 240 := by omega
   by_cases c2 : c < 248
   · have g2 : (c : Int) < 248 := by omega
     have hb2 := Num.fixedP_byte ⟨l1, false⟩
     have HF2 := hid (fun w (h0 : RR K w g ⟨l1, false⟩) => rfixed_any g 1 ⟨l1, false⟩ w h0 (Nat.le_trans hl1 hl))
     have HPP := hid (fun s2 d => HP2.out ⟨l1, false⟩ s2 c d rfl c1 c2)
     clear HP1 HP2 HP3 HP4 ht
     generalize ht2 : Num.fixedP 1 ⟨l1, false⟩ = t at *
     obtain ⟨s2, d⟩ := t
     dsimp only at *
     have HP := hid (HPP.out s2 d rfl)
     clear HPP ht2
     obtain ⟨l2, b2⟩ := s2
     cases b2 with
     | true =>
      go_enter Tryz.func62, Tryz.ntmps62
      go_wp2_with (first
       | (go_at_call 64; refine HB.out.mono ?_; rintro e w1 ⟨v1, rfl, ho1, hr1, he1⟩; obtain ⟨A, k, rfl, hrd⟩ := ho1.rb; obtain ⟨bb, q, rfl, hcell⟩ := hrd.byte (k := 0) (by simp); rw [List.getElem_cons_zero, HX.out, Nat.add_zero] at hcell; obtain ⟨hc1, hf1, hf0⟩ := hr1.mark; have HR := hid hr1; clear ho1 hr1 hrd)
       | (go_at_call 109; refine (HF2.out _ HR.out).mono ?_; rintro e w2 ⟨rfl, hr2, he2⟩; clear hc1 hf1 hf0 hcell; obtain ⟨hc1, hf1, hf0⟩ := hr2.mark; have HS := hid (hr2.setMark true); clear hr2))
      go_ret
      rw [HP.out, Num.mustP_no (.inl rfl)]
      exact ⟨rfl, HS.out.1, (he1.trans he2).trans HS.out.2⟩
     | false =>
      have hpl := Num.put_len (240 + (c - 240) * 256 + d)
      rw [if_neg (by omega), if_pos (by omega)] at hpl
      have HPL := hid hpl
      clear hpl
      have HPU := hid (fun z w hz => rput_z z (240 + (c - 240) * 256 + d) w hz (by omega))
      have HSZ := hid (fun w => rsize_2 c w (by omega))
      go_enter Tryz.func62, Tryz.ntmps62
      go_wp2_with (first
       | (go_at_call 64; refine HB.out.mono ?_; rintro e w1 ⟨v1, rfl, ho1, hr1, he1⟩; obtain ⟨A, k, rfl, hrd⟩ := ho1.rb; obtain ⟨bb, q, rfl, hcell⟩ := hrd.byte (k := 0) (by simp); rw [List.getElem_cons_zero, HX.out, Nat.add_zero] at hcell; obtain ⟨hc1, hf1, hf0⟩ := hr1.mark; have HR := hid hr1; clear ho1 hr1 hrd)
       | (go_at_call 109; refine (HF2.out _ HR.out).mono ?_; rintro e w2 ⟨rfl, hr2, he2⟩; clear hc1 hf1 hf0 hcell; obtain ⟨hc1, hf1, hf0⟩ := hr2.mark; have HR2 := hid hr2; clear hr2)
       | (go_at_call 106; refine (HPU.out _ _ (by omega)).mono ?_; rintro e w3 ⟨v3, rfl, ho3, he3⟩; obtain ⟨A3, k3, rfl⟩ := ho3.form; rw [HPL.out]; clear ho3)
       | (go_at_call 110; refine (HSZ.out _).mono ?_; rintro e w' ⟨rfl, rfl⟩))
      go_ret
      rw [HP.out, Num.mustP_yes rfl]
      exact ⟨ret_int (by omega), HR2.out.ext he3, (he1.trans he2).trans (ExtG.of he3)⟩
   have g2 : ¬ (c : Int) < 248 := by omega
   by_cases c3 : c < 255
   · have g3 : (c : Int) < 255 := by omega
     have HF2 := hid (fun k w (h0 : RR K w g ⟨l1, false⟩) => rfixed_any g k ⟨l1, false⟩ w h0 (Nat.le_trans hl1 hl))
     have HPP := hid (fun s2 d => HP3.out ⟨l1, false⟩ s2 c d rfl c1 c2 (by omega))
     have HK := hid (show ((c : Int) - 246) = ((c - 246 : Nat) : Int) by omega)
     have hv := Num.fixedP_val (c - 246 : Nat) ⟨l1, false⟩
     clear HP1 HP2 HP3 HP4 ht
     generalize ht2 : Num.fixedP (c - 246 : Nat) ⟨l1, false⟩ = t at *
     obtain ⟨s2, d⟩ := t
     dsimp only at *
     have HP := hid (HPP.out s2 d rfl)
     have HQ := hid ht2
     clear HPP ht2
     obtain ⟨l2, b2⟩ := s2
     cases b2 with
     | true =>
      go_enter Tryz.func62, Tryz.ntmps62
      go_wp2_with (first
       | (go_at_call 64; refine HB.out.mono ?_; rintro e w1 ⟨v1, rfl, ho1, hr1, he1⟩; obtain ⟨A, k, rfl, hrd⟩ := ho1.rb; obtain ⟨bb, q, rfl, hcell⟩ := hrd.byte (k := 0) (by simp); rw [List.getElem_cons_zero, HX.out, Nat.add_zero] at hcell; obtain ⟨hc1, hf1, hf0⟩ := hr1.mark; have HR := hid hr1; clear ho1 hr1 hrd)
       | (go_at_call 109; rw [HK.out]; refine (HF2.out _ _ HR.out).mono ?_; rw [HQ.out]; rintro e w2 ⟨rfl, hr2, he2⟩; clear hc1 hf1 hf0 hcell; obtain ⟨hc1, hf1, hf0⟩ := hr2.mark; have HS := hid (hr2.setMark true); clear hr2))
      go_ret
      rw [HP.out, Num.mustP_no (.inl rfl)]
      exact ⟨rfl, HS.out.1, (he1.trans he2).trans HS.out.2⟩
     | false =>
      have hpl := Num.put_len d
      have HSZ := hid (fun w => rsize_3 c w c3 (by omega))
      by_cases hq : (Num.put d).length = c - 245
      · have hd : 2288 ≤ d := by
         rw [hq] at hpl
         split at hpl
         · omega
         · split at hpl <;> omega
        rw [Num.mustP_yesB (by simp [hd, hq]) rfl] at HP
        have HPU := hid (fun w => rput_any d w (by omega))
        have HPL := hid (show (((Num.put d).length : Nat) : Int) = (c : Int) - 245 by omega)
        clear hpl hq
        generalize Num.put d = pd at *
        go_enter Tryz.func62, Tryz.ntmps62
        go_wp2_with (first
         | (go_at_call 64; refine HB.out.mono ?_; rintro e w1 ⟨v1, rfl, ho1, hr1, he1⟩; obtain ⟨A, k, rfl, hrd⟩ := ho1.rb; obtain ⟨bb, q, rfl, hcell⟩ := hrd.byte (k := 0) (by simp); rw [List.getElem_cons_zero, HX.out, Nat.add_zero] at hcell; obtain ⟨hc1, hf1, hf0⟩ := hr1.mark; have HR := hid hr1; clear ho1 hr1 hrd)
         | (go_at_call 109; rw [HK.out]; refine (HF2.out _ _ HR.out).mono ?_; rw [HQ.out]; rintro e w2 ⟨rfl, hr2, he2⟩; clear hc1 hf1 hf0 hcell; obtain ⟨hc1, hf1, hf0⟩ := hr2.mark; have HR2 := hid hr2; clear hr2)
         | (go_at_call 106; refine (HPU.out _).mono ?_; rintro e w3 ⟨v3, rfl, ho3, he3⟩; obtain ⟨A3, k3, rfl⟩ := ho3.form; have hpl := HPL.out; clear ho3)
         | (go_at_call 110; refine (HSZ.out _).mono ?_; rintro e w' ⟨rfl, rfl⟩))
        go_ret
        rw [HP.out]
        exact ⟨rfl, HR2.out.ext he3, (he1.trans he2).trans (ExtG.of he3)⟩
      · rw [Num.mustP_no (.inr (by simp [hq]))] at HP
        have HPU := hid (fun w => rput_any d w (by omega))
        have hne : ((((Num.put d).length : Nat) : Int) != (c : Int) - 245) = true := by rw [bne_iff_ne]; omega
        clear hpl hq
        generalize Num.put d = pd at *
        go_enter Tryz.func62, Tryz.ntmps62
        go_wp2_with (first
         | (go_at_call 64; refine HB.out.mono ?_; rintro e w1 ⟨v1, rfl, ho1, hr1, he1⟩; obtain ⟨A, k, rfl, hrd⟩ := ho1.rb; obtain ⟨bb, q, rfl, hcell⟩ := hrd.byte (k := 0) (by simp); rw [List.getElem_cons_zero, HX.out, Nat.add_zero] at hcell; obtain ⟨hc1, hf1, hf0⟩ := hr1.mark; have HR := hid hr1; clear ho1 hr1 hrd)
         | (go_at_call 109; rw [HK.out]; refine (HF2.out _ _ HR.out).mono ?_; rw [HQ.out]; rintro e w2 ⟨rfl, hr2, he2⟩; clear hc1 hf1 hf0 hcell; obtain ⟨hc1, hf1, hf0⟩ := hr2.mark; have HR2 := hid hr2; clear hr2)
         | (go_at_call 106; refine (HPU.out _).mono ?_; rintro e w3 ⟨v3, rfl, ho3, he3⟩; obtain ⟨A3, k3, rfl⟩ := ho3.form; clear ho3; have HS := hid ((HR2.out.ext he3).setMark true); clear hc1 hf1 hf0; obtain ⟨hc1, hf1, hf0⟩ := (HR2.out.ext he3).mark)
         | (go_at_call 110; refine (HSZ.out _).mono ?_; rintro e w' ⟨rfl, rfl⟩))
        go_ret
        rw [HP.out]
        exact ⟨rfl, HS.out.1, ((he1.trans he2).trans (ExtG.of he3)).trans HS.out.2⟩
   · have g3 : ¬ (c : Int) < 255 := by omega
     have HP := hid (HP4.out _ c rfl (by omega))
     clear HP1 HP2 HP3 HP4 ht
     go_enter Tryz.func62, Tryz.ntmps62
     go_wp2_with (go_at_call 64; refine HB.out.mono ?_; rintro e w1 ⟨v1, rfl, ho1, hr1, he1⟩; obtain ⟨A, k, rfl, hrd⟩ := ho1.rb; obtain ⟨bb, q, rfl, hcell⟩ := hrd.byte (k := 0) (by simp); rw [List.getElem_cons_zero, HX.out, Nat.add_zero] at hcell; obtain ⟨hc1, hf1, hf0⟩ := hr1.mark; have HR := hid hr1; have HS := hid (hr1.setMark true); have hh1 := (hr1.setMark true).1.mark; have hh2 := hh1.1; have hh3 := hh1.2.1; clear hh1 ho1 hr1 hrd)
     go_ret
     rw [HP.out]
     exact ⟨rfl, (HS.out.1.setMark true).1, (he1.trans HS.out.2).trans (HS.out.1.setMark true).2⟩
end Go.Proofs.YtpmpjjhchkoboaaGreatDoor
