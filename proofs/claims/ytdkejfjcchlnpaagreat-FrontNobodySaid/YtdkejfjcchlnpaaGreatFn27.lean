/-
  NumRead, packed: what the claim needs of them.
-/
import Derived.Test.YtdkejfjcchlnpaaGreatFn26
set_option maxHeartbeats 40000000
open Go.Lib (hid)
set_option maxRecDepth 100000
namespace Go.Proofs.YtdkejfjcchlnpaaGreat
open Go.RowKit Go.Ox
abbrev NR (K : Nat → Prop) (w : World) (g : Nat) (s : Num.St) : Prop := Rdr K 184 w g s.l s.bad
variable {K : Nat → Prop}
theorem a2g (g : Nat) (s : Num.St) (w : World) (h0 : NR K w g s) :
 Calls Tryz.prog 120 #[.pointer (some ⟨g, 0, none⟩)] w fun e w' => e = .returned (.bool s.bad) ∧ w = w' := by
 obtain ⟨hc1, hf1, hf0⟩ := h0.mark
 go_enter Tryz.func120, Tryz.ntmps120
 go_wp2
 go_ret
 exact ⟨rfl, rfl⟩
theorem a2Q (g : Nat) (s : Num.St) (w : World) (h0 : NR K w g s) :
 Calls Tryz.prog 125 #[.pointer (some ⟨g, 0, none⟩)] w fun e w' => e = .returned (.int .i64 0) ∧ NR K w' g (Num.a2f s) ∧ ExtG g w w' := by
 obtain ⟨hc1, hf1, hf0⟩ := h0.mark;have HS := hid (h0.b3e true);clear h0
 go_enter Tryz.func125, Tryz.ntmps125
 go_wp2
 go_ret
 exact ⟨rfl, HS.o.1, HS.o.2⟩
theorem b24 (g : Nat) (n : Int) (s : Num.St) (w : World) (h0 : NR K w g s) (h : s.bad = true ∨ n < 0 ∨ (s.l.length : Int) < n) :
 Calls Tryz.prog 156 #[.pointer (some ⟨g, 0, none⟩), .int .i64 n] w fun e w' => e = .returned (.slice none 0 0) ∧ NR K w' g (Num.a2f s) ∧ ExtG g w w' := by
 obtain ⟨A, c, hrb, hc0, hc1, hf1, hf0⟩ := h0.open_;have HB := hid (a2g g s w h0);have HF := hid (fun w (h0 : NR K w g s) => a2Q g s w h0)
 have H0 := hid h0;clear h0 hrb;obtain ⟨l, bad⟩ := s;dsimp only at *
 cases bad with
 | true =>
  clear h
  go_enter Tryz.func156, Tryz.ntmps156
  go_wp2_with (first
   | (go_at_call 120; refine HB.o.mono ?_; rintro e w' ⟨rfl, rfl⟩)
   | (go_at_call 125; refine (HF.o _ H0.o).mono ?_; rintro e w1 ⟨rfl, hr1, he1⟩))
  go_ret
  exact ⟨rfl, hr1, he1⟩
 | false =>
 by_cases hn : n < 0
 · clear h
   go_enter Tryz.func156, Tryz.ntmps156
   go_wp2_with (first
    | (go_at_call 120; refine HB.o.mono ?_; rintro e w' ⟨rfl, rfl⟩)
    | (go_at_call 125; refine (HF.o _ H0.o).mono ?_; rintro e w1 ⟨rfl, hr1, he1⟩))
   go_ret
   exact ⟨rfl, hr1, he1⟩
 have hn2 : (l.length : Int) < n := by rcases h with h | h | h <;> first | omega | cases h
 clear h
 go_enter Tryz.func156, Tryz.ntmps156
 go_wp2_with (first
  | (go_at_call 120; refine HB.o.mono ?_; rintro e w' ⟨rfl, rfl⟩)
  | (go_at_call 125; refine (HF.o _ H0.o).mono ?_; rintro e w1 ⟨rfl, hr1, he1⟩))
 go_ret
 exact ⟨rfl, hr1, he1⟩
theorem b0a (g n : Nat) (l : List UInt8) (w : World) (h0 : NR K w g ⟨l, false⟩) (h : n ≤ l.length) (hl : l.length ≤ 1000000) :
 Calls Tryz.prog 156 #[.pointer (some ⟨g, 0, none⟩), .int .i64 n] w fun e w' => ∃ v, e = .returned v ∧ OB 5 w.heap.size w' v (l.take n) ∧ NR K w' g ⟨l.drop n, false⟩ ∧ ExtG g w w' := by
 obtain ⟨A, c, hik, hrb, hc0, hc1, hf1, hf0⟩ := h0.openK;dsimp only at hik hrb hc0 hc1;have HB := hid (a2g g _ w h0);have hcut := RB.loK b09 hrb hik h n rfl;obtain ⟨A', hcut, hrd, hik2⟩ := hcut;have HIK := hid hik2;clear hik hik2;have htk := hrb.takeS h;have hnc := hrb.nc.1;have hC := hid (a6y (.slice A n c) (l.take n) w htk (by simp; omega))
 have HD := hid hrd;have H0 := hid h0;have g1 : (n : Int) ≤ (l.length : Int) := by omega
 have g2 : (n : Int) ≤ (c : Int) := by omega
 have hlt := h0.lt;clear h0 hrb htk hrd h hnc
 go_enter Tryz.func156, Tryz.ntmps156
 go_wp2_with (first
  | (go_at_call 120; refine HB.o.mono ?_; rintro e w' ⟨rfl, rfl⟩)
  | (go_at_call 118; refine hC.o.mono ?_; rintro e w1 ⟨v1, rfl, ho1, he1⟩; have H1 := hid (H0.o.ext he1); obtain ⟨A1, c1, hrb1, hc01, hc11, hf11, hf01⟩ := H1.o.open_; have hc02 := he1.cell hc0; rw [hc02] at hc01; clear hc01 hc11 hrb1))
 go_ret
 obtain ⟨q1, q2⟩ := H1.o.b3f (HD.o.ext he1) HIK.o;refine ⟨_, rfl, ho1.a5Y q2 (fun e => ?_), q1, (ExtG.of he1).trans q2⟩
 have := (ho1.own.lt g e).1;omega
theorem b0b (g : Nat) (n : Int) (s : Num.St) (w : World) (h0 : NR K w g s) (hl : s.l.length ≤ 1000000) :
 Calls Tryz.prog 156 #[.pointer (some ⟨g, 0, none⟩), .int .i64 n] w fun e w' => ∃ v, e = .returned v ∧ OB 5 w.heap.size w' v (Num.a0F n s).2 ∧ NR K w' g (Num.a0F n s).1 ∧ ExtG g w w' := by
 by_cases h : s.bad = true ∨ n < 0 ∨ (s.l.length : Int) < n
 · refine (b24 g n s w h0 h).mono ?_
   rintro e w' ⟨rfl, h1, h2⟩;rw [Num.b02 h];exact ⟨_, rfl, World.ownsRow_nil _ _ _ _, h1, h2⟩
 obtain ⟨l, b⟩ := s;obtain ⟨n, rfl⟩ : ∃ m : Nat, n = m := ⟨n.toNat, by omega⟩
 have hb : b = false := by cases b <;> simp_all
 subst hb;simp only at *;refine (b0a g n l w h0 (by omega) hl).mono ?_
 rintro e w' ⟨v, rfl, h1, h2, h3⟩;rw [Num.a5f rfl (show n ≤ l.length by omega)]
 exact ⟨_, rfl, h1, h2, h3⟩
theorem b3Q (a : Nat) (b : UInt8) (ha : a * 256 + 255 < 18446744073709551616) : bits .or .u64 ((a * 256 : Nat) : Int) (n8 b) = ((a * 256 + b.toNat : Nat) : Int) := by
 have hb := b.toNat_lt;unfold n8
 show IntKind.u64.wrap ((BitVec.ofInt 64 ((a * 256 : Nat) : Int) ||| BitVec.ofInt 64 (b.toNat : Int)).toNat : Int) = _;rw [BitVec.toNat_or, BitVec.ofInt_natCast, BitVec.ofInt_natCast, BitVec.toNat_ofNat, BitVec.toNat_ofNat, Nat.mod_eq_of_lt (by omega), Nat.mod_eq_of_lt (by omega)]
 rw [show a * 256 = a <<< 8 by rw [Nat.shiftLeft_eq], ← Nat.shiftLeft_add_eq_or_of_lt (by omega), Nat.shiftLeft_eq]
 rw [IntKind.wrap_u64];omega
theorem a4j (g : Nat) (n : Int) (s : Num.St) (w : World) (h0 : NR K w g s) (hl : s.l.length ≤ 1000000) :
 Calls Tryz.prog 122 #[.pointer (some ⟨g, 0, none⟩), .int .i64 n] w fun e w' => e = .returned (.int .i64 ((Num.a07 n s).2 : Nat)) ∧ NR K w' g (Num.a07 n s).1 ∧ ExtG g w w' := by
 have HF := hid (fun w s (h0 : NR K w g s) => a2Q g s w h0)
 have H0 := hid h0;clear h0
 by_cases hr : n < 1 ∨ 8 < n
 · have hp := hid (Num.b03 (s := s) hr)
   rw [hp.o];dsimp only
   by_cases h1 : n < 1
   · clear hr
     go_enter Tryz.func122, Tryz.ntmps122
     go_wp2_with (go_at_call 125; refine (HF.o _ _ H0.o).mono ?_; rintro e w1 ⟨rfl, hr1, he1⟩)
     go_ret
     exact ⟨rfl, hr1, he1⟩
   have h2 : 8 < n := by omega
   clear hr
   go_enter Tryz.func122, Tryz.ntmps122
   go_wp2_with (go_at_call 125; refine (HF.o _ _ H0.o).mono ?_; rintro e w1 ⟨rfl, hr1, he1⟩)
   go_ret
   exact ⟨rfl, hr1, he1⟩
 have HY := hid (b0b g n s w H0.o hl);have hout := Num.a5g n s;have HPB := hid (Num.a8N (s := s) hr);have HPO := hid (Num.b04 (s := s) hr);generalize hb : Num.a0F n s = t at *;obtain ⟨t, o⟩ := t;dsimp only at *;clear hb
 have hol : o.length ≤ 8 := by
  rcases hout with h | h
  · omega
  simp [h]
 have h1 : ¬ n < 1 := by omega
 have h2 : ¬ 8 < n := by omega
 clear hr hout
 go_enter Tryz.func122, Tryz.ntmps122
 go_wp2_with (go_at_call 156; refine HY.o.mono ?_; rintro e w1 ⟨v1, rfl, ho1, hr1, he1⟩; have HO := hid ho1.rb; clear ho1; obtain ⟨A, c, rfl, hrd⟩ := HO.o)
 have HR1 := hid hr1;clear hr1
 go_loop [5, 20] (fun a i => ∃ k : Nat, k ≤ o.length ∧ i = .int .i64 k ∧ a = .int .u64 (Num.val (o.take k) : Nat)) (fun _ i => o.length - (intOf i).toNat)
 case atStart => exact ⟨0, Nat.zero_le _, rfl, by simp [Num.b3L]⟩
 case round =>
 obtain ⟨k, hk, rfl, rfl⟩ := hrel
 by_cases hlt : k < o.length
 · obtain ⟨b, q, rfl⟩ := hrd.addr (by omega)
   have hcell := hrd.get (j := k) (u := a0X o[k]) (by rw [List.getElem?_map, List.getElem?_eq_getElem hlt]; rfl)
   unfold a0X at hcell;have ht := Num.b21 hlt;have hv := Num.b2Q (o.take k);rw [List.length_take, Nat.min_eq_left hk] at hv
   have hv7 : Num.val (o.take k) < 72057594037927936 := Nat.lt_of_lt_of_le hv (by
    have : 256 ^ k ≤ 256 ^ 7 := Nat.pow_le_pow_right (by omega) (by omega)
    simpa using this)
   clear hv;have HT := hid ht;clear ht;have hx := n8_lo o[k];have hx2 := n8_hi o[k];have ho := b3Q (Num.val (o.take k)) o[k] (by omega)
   generalize Num.val (o.take k) = a at *;have e1 : ((a * 256 : Nat) : Int) = (a : Int) * 256 := by omega
   rw [e1] at ho;have g1 : (k : Int) < (o.length : Int) := by omega
   have g0 : 0 ≤ (k : Int) := by omega
   go_wp2
   refine ⟨⟨k + 1, by omega, by go_num, ?_⟩, by simp [intOf]; omega⟩
   rw [HT.o]
   congr 1
 obtain rfl : k = o.length := by omega
 rw [List.take_length];have HBD := hid (a2g g t w1 HR1.o);have HFL := hid (a2Q g t w1 HR1.o);obtain ⟨tl, tb⟩ := t;dsimp only at *
 cases tb with
 | true =>
  have HP := hid (HPB.o (.inl rfl));clear HPB HPO;generalize Num.val o = v at *
  go_wp2_with (first
   | (go_at_call 120; refine HBD.o.mono ?_; rintro e w' ⟨rfl, rfl⟩)
   | (go_at_call 125; refine HFL.o.mono ?_; rintro e w2 ⟨rfl, hr2, he2⟩))
  go_ret
  rw [HP.o];exact ⟨rfl, hr2, he1.trans he2⟩
 | false =>
 by_cases hv : 9223372036854775807 < Num.val o
 · have HP := hid (HPB.o (.inr hv))
   clear HPB HPO;generalize Num.val o = v at *;have hv2 : (9223372036854775807 : Int) < (v : Int) := by omega
   go_wp2_with (first
    | (go_at_call 120; refine HBD.o.mono ?_; rintro e w' ⟨rfl, rfl⟩)
    | (go_at_call 125; refine HFL.o.mono ?_; rintro e w2 ⟨rfl, hr2, he2⟩))
   go_ret
   rw [HP.o];exact ⟨rfl, hr2, he1.trans he2⟩
 have HP := hid (HPO.o (by simp; omega))
 clear HPB HPO;have HV := hid (Nat.le_of_not_lt hv);generalize Num.val o = v at *;have hv2 : ¬ (9223372036854775807 : Int) < (v : Int) := by omega
 go_wp2_with (first
  | (go_at_call 120; refine HBD.o.mono ?_; rintro e w' ⟨rfl, rfl⟩)
  | (go_at_call 125; refine HFL.o.mono ?_; rintro e w2 ⟨rfl, hr2, he2⟩))
 go_ret
 rw [HP.o];exact ⟨rfl, HR1.o, he1⟩
theorem b3R (g : Nat) (n : Int) (is : Bool) (s : Num.St) (w : World) (h0 : NR K w g s) (h : s.bad = true ∨ is = false) :
 Calls Tryz.prog 123 #[.pointer (some ⟨g, 0, none⟩), .int .i64 n, .bool is] w fun e w' => e = .returned (.int .i64 0) ∧ NR K w' g (Num.a2f s) ∧ ExtG g w w' := by
 have HB := hid (a2g g s w h0);have HF := hid (a2Q g s w h0);obtain ⟨l, bad⟩ := s
 cases bad with
 | true =>
  clear h
  go_enter Tryz.func123, Tryz.ntmps123
  go_wp2_with (first
   | (go_at_call 120; refine HB.o.mono ?_; rintro e w' ⟨rfl, rfl⟩)
   | (go_at_call 125; refine HF.o.mono ?_; rintro e w2 ⟨rfl, hr2, he2⟩))
  go_ret
  exact ⟨rfl, hr2, he2⟩
 | false =>
 cases is with
 | true => simp at h
 | false =>
 clear h
 go_enter Tryz.func123, Tryz.ntmps123
 go_wp2_with (first
  | (go_at_call 120; refine HB.o.mono ?_; rintro e w' ⟨rfl, rfl⟩)
  | (go_at_call 125; refine HF.o.mono ?_; rintro e w2 ⟨rfl, hr2, he2⟩))
 go_ret
 exact ⟨rfl, hr2, he2⟩
theorem b25 (g : Nat) (n : Int) (l : List UInt8) (w : World) (h0 : NR K w g ⟨l, false⟩) :
 Calls Tryz.prog 123 #[.pointer (some ⟨g, 0, none⟩), .int .i64 n, .bool true] w fun e w' => e = .returned (.int .i64 n) ∧ w = w' := by
 have HB := hid (a2g g _ w h0)
 go_enter Tryz.func123, Tryz.ntmps123
 go_wp2_with (first
  | (go_at_call 120; refine HB.o.mono ?_; rintro e w' ⟨rfl, rfl⟩))
 go_ret
 exact ⟨rfl, rfl⟩
theorem a7V (g : Nat) (n : Int) (n' : Nat) (is : Bool) (s : Num.St) (w : World) (h0 : NR K w g s) (hn : n = n') :
 Calls Tryz.prog 123 #[.pointer (some ⟨g, 0, none⟩), .int .i64 n, .bool is] w fun e w' => e = .returned (.int .i64 ((Num.a3H n' is s).2 : Nat)) ∧ NR K w' g (Num.a3H n' is s).1 ∧ ExtG g w w' := by
 subst hn;unfold Num.a3H
 by_cases h : s.bad = true ∨ is = false
 · rw [if_pos h]
   exact b3R g n' is s w h0 h
 rw [if_neg h];obtain ⟨l, b⟩ := s;have hb : b = false := by cases b <;> simp_all
 have hi : is = true := by cases is <;> simp_all
 subst hb hi;exact (b25 g n' l w h0).mono fun e w' ⟨q1, q2⟩ => by subst q2; exact ⟨q1, h0, ExtG.refl _ _⟩
theorem a2A (g : Nat) (s : Num.St) (w : World) (h0 : NR K w g s) (hl : s.l.length ≤ 1000000) :
 Calls Tryz.prog 94 #[.pointer (some ⟨g, 0, none⟩)] w fun e w' => e = .returned (.int .i64 ((Num.a0l s).2 : Nat)) ∧ NR K w' g (Num.a0l s).1 ∧ ExtG g w w' := by
 have HF := hid (a4j g 1 s w h0 hl);have hb := Num.a4i s;have hl1 := Num.a2o 1 s;have HP1 := hid (fun s1 c h => @Num.numP_1 s s1 c h)
 have HP2 := hid (fun s1 s2 c d h => @Num.numP_2 s s1 s2 c d h)
 have HP3 := hid (fun s1 s2 c n h => @Num.numP_3 s s1 s2 c n h)
 have HP4 := hid (fun s1 c h => @Num.numP_4 s s1 c h)
 generalize ht : Num.a07 1 s = t at *;obtain ⟨s1, c⟩ := t;dsimp only at *
 by_cases c1 : c < 240
 · have HP := hid (HP1.o s1 c rfl c1)
   clear HP1 HP2 HP3 HP4 ht;have g1 : (c : Int) < 240 := by omega
   go_enter Tryz.func94, Tryz.ntmps94
   go_wp2_with (first
    | (go_at_call 122; refine HF.o.mono ?_; rintro e w1 ⟨rfl, hr1, he1⟩))
   go_ret
   rw [HP.o];exact ⟨rfl, hr1, he1⟩
 have g1 : ¬ (c : Int) < 240 := by omega
 by_cases c2 : c < 248
 · obtain ⟨c, rfl⟩ : ∃ m, c = m + 240 := ⟨c - 240, by omega⟩
   have hb2 := Num.a4i s1;have HF2 := hid (fun w (h0 : NR K w g s1) => a4j g 1 s1 w h0 (by omega))
   have HPP := hid (fun s2 d => HP2.o s1 s2 (c + 240) d rfl c1 c2)
   clear HP1 HP2 HP3 HP4 ht;generalize ht2 : Num.a07 1 s1 = t at *;obtain ⟨s2, d⟩ := t;dsimp only at *;have HP := hid (HPP.o s2 d rfl);clear HPP ht2;have g2 : ((c + 240 : Nat) : Int) < 248 := by omega
   have g3 : ((c + 240 : Nat) : Int) - 240 = c := by omega
   have HM := hid (fun n w (h0 : NR K w g s2) hn => a7V g n (240 + (c + 240 - 240) * 256 + d) true s2 w h0 hn)
   generalize Num.a3H (240 + (c + 240 - 240) * 256 + d) true s2 = q at *;generalize ((c + 240 : Nat) : Int) = z at *
   go_enter Tryz.func94, Tryz.ntmps94
   go_wp2_with (first
    | (go_at_call 122; refine HF.o.mono ?_; rintro e w1 ⟨rfl, hr1, he1⟩)
    | (go_at_call 122; refine (HF2.o _ hr1).mono ?_; rintro e w2 ⟨rfl, hr2, he2⟩)
    | (go_at_call 123; refine (HM.o _ _ hr2 (by omega)).mono ?_; rintro e w3 ⟨rfl, hr3, he3⟩))
   go_ret
   rw [HP.o];exact ⟨rfl, hr3, (he1.trans he2).trans he3⟩
 have g2 : ¬ (c : Int) < 248 := by omega
 by_cases c3 : c ≤ 254
 · have g3 : (c : Int) ≤ 254 := by omega
   have HF2 := hid (fun k w (h0 : NR K w g s1) => a4j g k s1 w h0 (by omega))
   have HPP := hid (fun s2 d => HP3.o s1 s2 c d rfl c1 c2 c3)
   have hk : ((c : Int) - 246) = ((c - 246 : Nat) : Int) := by omega
   have hv := Num.a8M (c - 246 : Nat) s1;clear HP1 HP2 HP3 HP4 ht;generalize ht2 : Num.a07 (c - 246 : Nat) s1 = t at *;obtain ⟨s2, n⟩ := t;dsimp only at *;have HP := hid (HPP.o s2 n rfl);have HQ := hid ht2;have HK := hid hk;have HN := hid hv;clear HPP ht2 hk;have HS := hid (fun w => b23 n w (by omega))
   have hpl := Num.b2P n;have HM := hid (fun is w (h0 : NR K w g s2) => a7V g n n is s2 w h0 rfl)
   clear hv
   by_cases c4 : 2288 ≤ n
   · have g4 : (2288 : Int) ≤ (n : Int) := by omega
     by_cases c5 : (Num.put n).length = c - 245
     · have g5 : (((Num.put n).length : Int) == (c : Int) - 246 + 1) = true := by simp; omega
       have hd : (decide (2288 ≤ n) && (Num.put n).length == c - 245) = true := by simp [c4, c5]
       rw [hd] at HP;clear hd c5;generalize (Num.put n).length = q at *
       go_enter Tryz.func94, Tryz.ntmps94
       go_wp2_with (first
        | (go_at_call 122; with_reducible refine HF.o.mono ?_; rintro e w1 ⟨rfl, hr1, he1⟩)
        | (go_at_call 122; rw [HK.o]; refine (HF2.o _ _ hr1).mono ?_; rw [HQ.o]; rintro e w2 ⟨rfl, hr2, he2⟩)
        | (go_at_call 124; refine (HS.o _).mono ?_; rintro e w' ⟨rfl, rfl⟩)
        | (go_at_call 123; refine (HM.o _ _ hr2).mono ?_; rintro e w3 ⟨rfl, hr3, he3⟩))
       go_ret
       rw [HP.o];exact ⟨rfl, hr3, (he1.trans he2).trans he3⟩
     have g5 : (((Num.put n).length : Int) == (c : Int) - 246 + 1) = false := by simp; omega
     have hd : (decide (2288 ≤ n) && (Num.put n).length == c - 245) = false := by simp [c4, c5]
     rw [hd] at HP;clear hd c5;generalize (Num.put n).length = q at *
     go_enter Tryz.func94, Tryz.ntmps94
     go_wp2_with (first
      | (go_at_call 122; with_reducible refine HF.o.mono ?_; rintro e w1 ⟨rfl, hr1, he1⟩)
      | (go_at_call 122; rw [HK.o]; refine (HF2.o _ _ hr1).mono ?_; rw [HQ.o]; rintro e w2 ⟨rfl, hr2, he2⟩)
      | (go_at_call 124; refine (HS.o _).mono ?_; rintro e w' ⟨rfl, rfl⟩)
      | (go_at_call 123; refine (HM.o _ _ hr2).mono ?_; rintro e w3 ⟨rfl, hr3, he3⟩))
     go_ret
     rw [HP.o];exact ⟨rfl, hr3, (he1.trans he2).trans he3⟩
   have g4 : ¬ (2288 : Int) ≤ (n : Int) := by omega
   have hd : (decide (2288 ≤ n) && (Num.put n).length == c - 245) = false := by simp [c4]
   rw [hd] at HP;clear hd HS hpl
   go_enter Tryz.func94, Tryz.ntmps94
   go_wp2_with (first
    | (go_at_call 122; with_reducible refine HF.o.mono ?_; rintro e w1 ⟨rfl, hr1, he1⟩)
    | (go_at_call 122; rw [HK.o]; refine (HF2.o _ _ hr1).mono ?_; rw [HQ.o]; rintro e w2 ⟨rfl, hr2, he2⟩)
    | (go_at_call 123; refine (HM.o _ _ hr2).mono ?_; rintro e w3 ⟨rfl, hr3, he3⟩))
   go_ret
   rw [HP.o];exact ⟨rfl, hr3, (he1.trans he2).trans he3⟩
 have HP := hid (HP4.o s1 c rfl c3);clear HP1 HP2 HP3 HP4 ht;have g3 : ¬ (c : Int) ≤ 254 := by omega
 have HL := hid (fun w (h0 : NR K w g s1) => a2Q g s1 w h0)
 go_enter Tryz.func94, Tryz.ntmps94
 go_wp2_with (first
  | (go_at_call 122; refine HF.o.mono ?_; rintro e w1 ⟨rfl, hr1, he1⟩)
  | (go_at_call 125; refine (HL.o _ hr1).mono ?_; rintro e w2 ⟨rfl, hr2, he2⟩))
 go_ret
 rw [HP.o];exact ⟨rfl, hr2, he1.trans he2⟩
theorem b26 (g : Nat) (s : Num.St) (w : World) (h0 : NR K w g s) :
 Calls Tryz.prog 95 #[.pointer (some ⟨g, 0, none⟩)] w fun e w' => e = .returned (.int .i64 (if s.bad = true ∨ s.l ≠ [] then 10 else 0)) ∧ w = w' := by
 obtain ⟨A, c, hrb, hc0, hc1, hf1, hf0⟩ := h0.open_;have HB := hid (a2g g s w h0);obtain ⟨l, bad⟩ := s;dsimp only at *
 cases bad with
 | true =>
  rw [if_pos (.inl rfl)]
  go_enter Tryz.func95, Tryz.ntmps95
  go_wp2_with (first
   | (go_at_call 120; refine HB.o.mono ?_; rintro e w' ⟨rfl, rfl⟩))
  go_ret
  exact ⟨rfl, rfl⟩
 | false =>
 by_cases hl : l = []
 · subst hl
   rw [if_neg (by simp)]
   go_enter Tryz.func95, Tryz.ntmps95
   go_wp2_with (first
    | (go_at_call 120; refine HB.o.mono ?_; rintro e w' ⟨rfl, rfl⟩))
   go_ret
   exact ⟨rfl, rfl⟩
 rw [if_pos (.inr hl)];have hp : 0 < l.length := List.length_pos_iff.2 hl;have hp1 : (0 : Int) < (l.length : Int) := by omega
 generalize l.length = n at *
 go_enter Tryz.func95, Tryz.ntmps95
 go_wp2_with (first
  | (go_at_call 120; refine HB.o.mono ?_; rintro e w' ⟨rfl, rfl⟩))
 go_ret
 exact ⟨rfl, rfl⟩
theorem b27 (v : Value) (l : List UInt8) (w : World) (h0 : RB w v l) (hl : l.length ≤ 1000000) :
 Calls Tryz.prog 92 #[v] w fun e w' => ∃ g, e = .returned (.pointer (some ⟨g, 0, none⟩)) ∧ NR (fun k => k < w'.heap.size) w' g ⟨l, false⟩ ∧ Ext w w' ∧ w.heap.size ≤ g := by
 have hC := hid (fun w h0 => a6y v l w h0 (by omega))
 go_enter Tryz.func92, Tryz.ntmps92
 go_wp2_with (first
  | (go_at_call 118; refine (hC.o _ h0).mono ?_; rintro e w1 ⟨v1, rfl, ho1, he1⟩; obtain ⟨A1, c1, rfl⟩ := ho1.form; have HO1 := hid ho1.rb; clear ho1))
 go_ret
 refine ⟨_, rfl, (Rdr.new HO1.o _ _).weak (fun b hb => by simp; omega), he1.alloc _, he1.size⟩
end Go.Proofs.YtdkejfjcchlnpaaGreat
namespace Go.Proofs.YtdkejfjcchlnpaaGreat
open Go.RowKit Go.Ox
variable {K : Nat → Prop}
end Go.Proofs.YtdkejfjcchlnpaaGreat
