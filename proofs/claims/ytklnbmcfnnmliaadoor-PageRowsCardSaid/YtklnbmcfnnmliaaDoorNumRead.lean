/-
  The walks of the two readers.
-/
import Derived.Test.YtklnbmcfnnmliaaDoorNum
import Derived.Test.YtklnbmcfnnmliaaDoorNumRdMath
import Derived.Test.YtklnbmcfnnmliaaDoorRdr
namespace Go.Proofs.YtklnbmcfnnmliaaDoor
open Go.RowKit Go.Ox

abbrev NR (w : World) (g : Nat) (s : Num.St) : Prop := Rdr 62 w g s.l s.bad
set_option maxRecDepth 100000 in
set_option maxHeartbeats 400000 in
theorem bad_any (g : Nat) (s : Num.St) (w : World) (h0 : NR w g s) :
    Calls Tryd.prog 36 #[.pointer (some ⟨g, 0, none⟩)] w fun e w' => e = .returned (.bool s.bad) ∧ w = w' := by
  obtain ⟨hc1, hf1, hf0⟩ := h0.mark
  go_enter Tryd.func36, Tryd.ntmps36
  go_wp2
  go_ret
  exact ⟨rfl, rfl⟩
set_option maxRecDepth 100000 in
set_option maxHeartbeats 400000 in
theorem fail_any (g : Nat) (s : Num.St) (w : World) (h0 : NR w g s) :
    Calls Tryd.prog 34 #[.pointer (some ⟨g, 0, none⟩)] w fun e w' => e = .returned (.int .i64 0) ∧ NR w' g (Num.failP s) ∧ ExtG g w w' := by
  obtain ⟨hc1, hf1, hf0⟩ := h0.mark
  have HS := Lib.hid (h0.setMark true)
  clear h0
  go_enter Tryd.func34, Tryd.ntmps34
  go_wp2
  go_ret
  exact ⟨rfl, HS.out.1, HS.out.2⟩

set_option maxRecDepth 100000 in
set_option maxHeartbeats 400000 in
theorem bytes_no (g : Nat) (n : Int) (s : Num.St) (w : World) (h0 : NR w g s) (h : s.bad = true ∨ n < 0 ∨ (s.l.length : Int) < n) :
    Calls Tryd.prog 35 #[.pointer (some ⟨g, 0, none⟩), .int .i64 n] w fun e w' => e = .returned (.slice none 0 0) ∧ NR w' g (Num.failP s) ∧ ExtG g w w' := by
  obtain ⟨A, c, hrb, hc0, hc1, hf1, hf0⟩ := h0.open_
  have HB := Lib.hid (bad_any g s w h0)
  have HF := Lib.hid (fun w h0 => fail_any g s w h0)
  have H0 := Lib.hid h0
  clear h0 hrb
  obtain ⟨l, bad⟩ := s
  dsimp only at *
  cases bad with
  | true =>
    clear h
    go_enter Tryd.func35, Tryd.ntmps35
    go_wp2_with (first
      | (go_at_call 36; refine HB.out.mono ?_; rintro e w' ⟨rfl, rfl⟩)
      | (go_at_call 34; refine (HF.out _ H0.out).mono ?_; rintro e w1 ⟨rfl, hr1, he1⟩))
    go_ret
    exact ⟨rfl, hr1, he1⟩
  | false =>
    by_cases hn : n < 0
    · clear h
      go_enter Tryd.func35, Tryd.ntmps35
      go_wp2_with (first
        | (go_at_call 36; refine HB.out.mono ?_; rintro e w' ⟨rfl, rfl⟩)
        | (go_at_call 34; refine (HF.out _ H0.out).mono ?_; rintro e w1 ⟨rfl, hr1, he1⟩))
      go_ret
      exact ⟨rfl, hr1, he1⟩
    · have hn2 : (l.length : Int) < n := by rcases h with h | h | h <;> first | omega | cases h
      clear h
      go_enter Tryd.func35, Tryd.ntmps35
      go_wp2_with (first
        | (go_at_call 36; refine HB.out.mono ?_; rintro e w' ⟨rfl, rfl⟩)
        | (go_at_call 34; refine (HF.out _ H0.out).mono ?_; rintro e w1 ⟨rfl, hr1, he1⟩))
      go_ret
      exact ⟨rfl, hr1, he1⟩
set_option maxRecDepth 100000 in
set_option maxHeartbeats 400000 in
theorem bytes_yes (g n : Nat) (l : List UInt8) (w : World) (h0 : NR w g ⟨l, false⟩) (h : n ≤ l.length) (hl : l.length ≤ 1000000) :
    Calls Tryd.prog 35 #[.pointer (some ⟨g, 0, none⟩), .int .i64 n] w fun e w' => ∃ v, e = .returned v ∧ OB 5 w.heap.size w' v (l.take n) ∧ NR w' g ⟨l.drop n, false⟩ ∧ ExtG g w w' := by
  obtain ⟨A, c, hrb, hc0, hc1, hf1, hf0⟩ := h0.open_
  dsimp only at hrb hc0 hc1
  have HB := Lib.hid (bad_any g _ w h0)
  have hcut := RB.lo elemB hrb h n rfl
  obtain ⟨A', hcut, hrd⟩ := hcut
  have htk := hrb.takeS h
  have hnc := hrb.nc.1
  have hC := Lib.hid (clone_any (.slice A n c) (l.take n) w htk (by simp; omega))
  have HD := Lib.hid hrd
  have H0 := Lib.hid h0
  have g1 : (n : Int) ≤ (l.length : Int) := by omega
  have g2 : (n : Int) ≤ (c : Int) := by omega
  have hlt := h0.lt
  clear h0 hrb htk hrd h hnc
  go_enter Tryd.func35, Tryd.ntmps35
  go_wp2_with (first
    | (go_at_call 36; refine HB.out.mono ?_; rintro e w' ⟨rfl, rfl⟩)
    | (go_at_call 22; refine hC.out.mono ?_; rintro e w1 ⟨v1, rfl, ho1, he1⟩; have H1 := Lib.hid (H0.out.ext he1); obtain ⟨A1, c1, hrb1, hc01, hc11, hf11, hf01⟩ := H1.out.open_; have hc02 := he1.cell hc0; rw [hc02] at hc01; clear hc01 hc11 hrb1))
  go_ret
  obtain ⟨q1, q2⟩ := H1.out.setRest (HD.out.ext he1)
  refine ⟨_, rfl, ho1.extG q2 (fun e => ?_), q1, (ExtG.of he1).trans q2⟩
  have := (ho1.own.lt g e).1
  omega

set_option maxRecDepth 100000 in
set_option maxHeartbeats 400000 in
theorem bytes_any (g : Nat) (n : Int) (s : Num.St) (w : World) (h0 : NR w g s) (hl : s.l.length ≤ 1000000) :
    Calls Tryd.prog 35 #[.pointer (some ⟨g, 0, none⟩), .int .i64 n] w fun e w' => ∃ v, e = .returned v ∧ OB 5 w.heap.size w' v (Num.bytesP n s).2 ∧ NR w' g (Num.bytesP n s).1 ∧ ExtG g w w' := by
  by_cases h : s.bad = true ∨ n < 0 ∨ (s.l.length : Int) < n
  · refine (bytes_no g n s w h0 h).mono ?_
    rintro e w' ⟨rfl, h1, h2⟩
    rw [Num.bytesP_no h]
    exact ⟨_, rfl, World.ownsRow_nil _ _ _ _, h1, h2⟩
  · obtain ⟨l, b⟩ := s
    obtain ⟨n, rfl⟩ : ∃ m : Nat, n = m := ⟨n.toNat, by omega⟩
    have hb : b = false := by cases b <;> simp_all
    subst hb
    simp only at *
    refine (bytes_yes g n l w h0 (by omega) hl).mono ?_
    rintro e w' ⟨v, rfl, h1, h2, h3⟩
    rw [Num.bytesP_yes rfl (show n ≤ l.length by omega)]
    exact ⟨_, rfl, h1, h2, h3⟩

set_option maxRecDepth 100000 in
set_option maxHeartbeats 400000 in
theorem or_byte (a : Nat) (b : UInt8) (ha : a * 256 + 255 < 18446744073709551616) : bits .or .u64 ((a * 256 : Nat) : Int) (n8 b) = ((a * 256 + b.toNat : Nat) : Int) := by
  have hb := b.toNat_lt
  unfold n8
  show IntKind.u64.wrap ((BitVec.ofInt 64 ((a * 256 : Nat) : Int) ||| BitVec.ofInt 64 (b.toNat : Int)).toNat : Int) = _
  rw [BitVec.toNat_or, BitVec.ofInt_natCast, BitVec.ofInt_natCast, BitVec.toNat_ofNat, BitVec.toNat_ofNat, Nat.mod_eq_of_lt (by omega), Nat.mod_eq_of_lt (by omega)]
  rw [show a * 256 = a <<< 8 by rw [Nat.shiftLeft_eq], ← Nat.shiftLeft_add_eq_or_of_lt (by omega), Nat.shiftLeft_eq]
  rw [IntKind.wrap_u64]
  omega

set_option maxRecDepth 100000 in
set_option maxHeartbeats 400000 in
theorem fixed_any (g : Nat) (n : Int) (s : Num.St) (w : World) (h0 : NR w g s) (hl : s.l.length ≤ 1000000) :
    Calls Tryd.prog 24 #[.pointer (some ⟨g, 0, none⟩), .int .i64 n] w fun e w' => e = .returned (.int .i64 ((Num.fixedP n s).2 : Nat)) ∧ NR w' g (Num.fixedP n s).1 ∧ ExtG g w w' := by
  have HF := Lib.hid (fun w s h0 => fail_any g s w h0)
  have H0 := Lib.hid h0
  clear h0
  by_cases hr : n < 1 ∨ 8 < n
  · have hp := Lib.hid (Num.fixedP_no (s := s) hr)
    rw [hp.out]
    dsimp only
    by_cases h1 : n < 1
    · clear hr
      go_enter Tryd.func24, Tryd.ntmps24
      go_wp2_with (go_at_call 34; refine (HF.out _ _ H0.out).mono ?_; rintro e w1 ⟨rfl, hr1, he1⟩)
      go_ret
      exact ⟨rfl, hr1, he1⟩
    · have h2 : 8 < n := by omega
      clear hr
      go_enter Tryd.func24, Tryd.ntmps24
      go_wp2_with (go_at_call 34; refine (HF.out _ _ H0.out).mono ?_; rintro e w1 ⟨rfl, hr1, he1⟩)
      go_ret
      exact ⟨rfl, hr1, he1⟩
  · have HY := Lib.hid (bytes_any g n s w H0.out hl)
    have hout := Num.bytesP_out n s
    have HPB := Lib.hid (Num.fixedP_bad (s := s) hr)
    have HPO := Lib.hid (Num.fixedP_ok (s := s) hr)
    generalize hb : Num.bytesP n s = t at *
    obtain ⟨t, o⟩ := t
    dsimp only at *
    clear hb
    have hol : o.length ≤ 8 := by
      rcases hout with h | h
      · omega
      · simp [h]
    have h1 : ¬ n < 1 := by omega
    have h2 : ¬ 8 < n := by omega
    clear hr hout
    go_enter Tryd.func24, Tryd.ntmps24
    go_wp2_with (go_at_call 35; refine HY.out.mono ?_; rintro e w1 ⟨v1, rfl, ho1, hr1, he1⟩; have HO := Lib.hid ho1.rb; clear ho1; obtain ⟨A, c, rfl, hrd⟩ := HO.out)
    have HR1 := Lib.hid hr1
    clear hr1
    go_loop [5, 20] (fun a i => ∃ k : Nat, k ≤ o.length ∧ i = .int .i64 k ∧ a = .int .u64 (Num.val (o.take k) : Nat)) (fun _ i => o.length - (intOf i).toNat)
    case atStart => exact ⟨0, Nat.zero_le _, rfl, by simp [Num.val_nil]⟩
    case round =>
      obtain ⟨k, hk, rfl, rfl⟩ := hrel
      by_cases hlt : k < o.length
      · obtain ⟨b, q, rfl⟩ := hrd.addr (by omega)
        have hcell := hrd.get (j := k) (u := byteV o[k]) (by rw [List.getElem?_map, List.getElem?_eq_getElem hlt]; rfl)
        unfold byteV at hcell
        have ht := Num.val_take hlt
        have hv := Num.val_lt (o.take k)
        rw [List.length_take, Nat.min_eq_left hk] at hv
        have hv7 : Num.val (o.take k) < 72057594037927936 := Nat.lt_of_lt_of_le hv (by
          have : 256 ^ k ≤ 256 ^ 7 := Nat.pow_le_pow_right (by omega) (by omega)
          simpa using this)
        clear hv
        have HT := Lib.hid ht
        clear ht
        have hx := n8_lo o[k]
        have hx2 := n8_hi o[k]
        have ho := or_byte (Num.val (o.take k)) o[k] (by omega)
        generalize Num.val (o.take k) = a at *
        have e1 : ((a * 256 : Nat) : Int) = (a : Int) * 256 := by omega
        rw [e1] at ho
        have g1 : (k : Int) < (o.length : Int) := by omega
        have g0 : 0 ≤ (k : Int) := by omega
        go_wp2
        refine ⟨⟨k + 1, by omega, by go_num, ?_⟩, by simp [intOf]; omega⟩
        rw [HT.out]
        congr 1
      · obtain rfl : k = o.length := by omega
        rw [List.take_length]
        have HBD := Lib.hid (bad_any g t w1 HR1.out)
        have HFL := Lib.hid (fail_any g t w1 HR1.out)
        obtain ⟨tl, tb⟩ := t
        dsimp only at *
        cases tb with
        | true =>
          have HP := Lib.hid (HPB.out (.inl rfl))
          clear HPB HPO
          generalize Num.val o = v at *
          go_wp2_with (first
            | (go_at_call 36; refine HBD.out.mono ?_; rintro e w' ⟨rfl, rfl⟩)
            | (go_at_call 34; refine HFL.out.mono ?_; rintro e w2 ⟨rfl, hr2, he2⟩))
          go_ret
          rw [HP.out]
          exact ⟨rfl, hr2, he1.trans he2⟩
        | false =>
          by_cases hv : 9223372036854775807 < Num.val o
          · have HP := Lib.hid (HPB.out (.inr hv))
            clear HPB HPO
            generalize Num.val o = v at *
            have hv2 : (9223372036854775807 : Int) < (v : Int) := by omega
            go_wp2_with (first
              | (go_at_call 36; refine HBD.out.mono ?_; rintro e w' ⟨rfl, rfl⟩)
              | (go_at_call 34; refine HFL.out.mono ?_; rintro e w2 ⟨rfl, hr2, he2⟩))
            go_ret
            rw [HP.out]
            exact ⟨rfl, hr2, he1.trans he2⟩
          · have HP := Lib.hid (HPO.out (by simp; omega))
            clear HPB HPO
            have HV := Lib.hid (Nat.le_of_not_lt hv)
            generalize Num.val o = v at *
            have hv2 : ¬ (9223372036854775807 : Int) < (v : Int) := by omega
            go_wp2_with (first
              | (go_at_call 36; refine HBD.out.mono ?_; rintro e w' ⟨rfl, rfl⟩)
              | (go_at_call 34; refine HFL.out.mono ?_; rintro e w2 ⟨rfl, hr2, he2⟩))
            go_ret
            rw [HP.out]
            exact ⟨rfl, HR1.out, he1⟩

set_option maxRecDepth 100000 in
set_option maxHeartbeats 400000 in
theorem from_any (v : Value) (l : List UInt8) (w : World) (h0 : RB w v l) (hl : l.length ≤ 1000000) :
    Calls Tryd.prog 23 #[v] w fun e w' => ∃ g, e = .returned (.pointer (some ⟨g, 0, none⟩)) ∧ NR w' g ⟨l, false⟩ ∧ Ext w w' ∧ w.heap.size ≤ g := by
  have hC := Lib.hid (fun w h0 => clone_any v l w h0 (by omega))
  go_enter Tryd.func23, Tryd.ntmps23
  go_wp2_with (first
    | (go_at_call 22; refine (hC.out _ h0).mono ?_; rintro e w1 ⟨v1, rfl, ho1, he1⟩; obtain ⟨A1, c1, rfl⟩ := ho1.form; have HO1 := Lib.hid ho1.rb; clear ho1))
  go_ret
  refine ⟨_, rfl, ⟨A1, c1, Blk.new _ _ _, HO1.out.ext ((Ext.refl _).alloc _)⟩, he1.alloc _, he1.size⟩
/-! ### nobody -/
set_option maxRecDepth 100000 in
set_option maxHeartbeats 400000 in
theorem bad_nil (w : World) : Calls Tryd.prog 36 #[.pointer none] w fun e w' => e = .returned (.bool true) ∧ w = w' := by
  go_enter Tryd.func36, Tryd.ntmps36
  go_wp2
  go_ret
  exact ⟨rfl, rfl⟩
set_option maxRecDepth 100000 in
set_option maxHeartbeats 400000 in
theorem fail_nil (w : World) : Calls Tryd.prog 34 #[.pointer none] w fun e w' => e = .returned (.int .i64 0) ∧ w = w' := by
  go_enter Tryd.func34, Tryd.ntmps34
  go_wp2
  go_ret
  exact ⟨rfl, rfl⟩
set_option maxRecDepth 100000 in
set_option maxHeartbeats 400000 in
theorem bytes_nil (n : Int) (w : World) : Calls Tryd.prog 35 #[.pointer none, .int .i64 n] w fun e w' => e = .returned (.slice none 0 0) ∧ w = w' := by
  go_enter Tryd.func35, Tryd.ntmps35
  go_wp2_with (first
    | (go_at_call 36; refine (bad_nil _).mono ?_; rintro e w' ⟨rfl, rfl⟩)
    | (go_at_call 34; refine (fail_nil _).mono ?_; rintro e w' ⟨rfl, rfl⟩))
  go_ret
  exact ⟨rfl, rfl⟩
set_option maxRecDepth 100000 in
set_option maxHeartbeats 400000 in
theorem fixed_nil (n : Int) (w : World) : Calls Tryd.prog 24 #[.pointer none, .int .i64 n] w fun e w' => e = .returned (.int .i64 0) ∧ w = w' := by
  by_cases h1 : n < 1
  · go_enter Tryd.func24, Tryd.ntmps24
    go_wp2_with (go_at_call 34; refine (fail_nil _).mono ?_; rintro e w' ⟨rfl, rfl⟩)
    go_ret
    exact ⟨rfl, rfl⟩
  by_cases h2 : 8 < n
  · go_enter Tryd.func24, Tryd.ntmps24
    go_wp2_with (go_at_call 34; refine (fail_nil _).mono ?_; rintro e w' ⟨rfl, rfl⟩)
    go_ret
    exact ⟨rfl, rfl⟩
  go_enter Tryd.func24, Tryd.ntmps24
  go_wp2_with (go_at_call 35; refine (bytes_nil _ _).mono ?_; rintro e w' ⟨rfl, rfl⟩)
  go_loop [20] (fun i => i = .int .i64 0) (fun _ => 0)
  case atStart => rfl
  case round =>
    subst hrel
    go_wp2_with (first
      | (go_at_call 36; refine (bad_nil _).mono ?_; rintro e w' ⟨rfl, rfl⟩)
      | (go_at_call 34; refine (fail_nil _).mono ?_; rintro e w' ⟨rfl, rfl⟩))
    go_ret
    exact ⟨rfl, rfl⟩
end Go.Proofs.YtklnbmcfnnmliaaDoor
