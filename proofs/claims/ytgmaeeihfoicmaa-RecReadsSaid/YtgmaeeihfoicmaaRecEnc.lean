/-
  rec.Encode and the document's Encode.
-/
import Derived.Test.YtgmaeeihfoicmaaRecMath
import Derived.Test.YtgmaeeihfoicmaaRecPut
import Derived.Test.YtgmaeeihfoicmaaRecSort
namespace Go.Proofs.Ytgmaeeihfoicmaa
open Go.RowKit Go.Ox Go.Shelf
attribute [local irreducible] OP RP OB RB
set_option linter.unusedVariables false
set_option linter.unusedSimpArgs false

theorem mput_rec (r : Rec.R) (w : World) (h : Rec.ok r = true) : Calls Try.prog 11 #[mV r] w fun e w' => ∃ u, e = .returned (.tuple #[u, .int .i64 0]) ∧ OB 5 w.heap.size w' u (Rec.recL r) ∧ Ext w w' := by
  have hb := Rec.ok_bd h
  unfold Rec.recL
  obtain ⟨x, y⟩ := r
  obtain ⟨x, rfl⟩ : ∃ n : Nat, x = n := ⟨x.toNat, by simp only at hb; omega⟩
  obtain ⟨y, rfl⟩ : ∃ n : Nat, y = n := ⟨y.toNat, by simp only at hb; omega⟩
  simp only at hb
  refine (mput_any x y w (by omega) (by omega)).mono ?_
  rintro e w' ⟨v, rfl, ho, he⟩
  exact ⟨v, rfl, by simpa using ho, he⟩
theorem rmput_rec (r : Rec.R) (w : World) (h : Rec.ok r = true) : Calls Try.prog 18 #[mV r] w fun e w' => ∃ u, e = .returned u ∧ OB 5 w.heap.size w' u (Rec.recL r) ∧ Ext w w' := by
  have hb := Rec.ok_bd h
  unfold Rec.recL
  obtain ⟨x, y⟩ := r
  obtain ⟨x, rfl⟩ : ∃ n : Nat, x = n := ⟨x.toNat, by simp only at hb; omega⟩
  obtain ⟨y, rfl⟩ : ∃ n : Nat, y = n := ⟨y.toNat, by simp only at hb; omega⟩
  simp only at hb
  refine (rmput_any x y w (by omega) (by omega)).mono ?_
  rintro e w' ⟨v, rfl, ho, he⟩
  exact ⟨v, rfl, by simpa using ho, he⟩

set_option maxRecDepth 100000 in
set_option maxHeartbeats 1000000 in
theorem enc_err (v : Value) (l : List Rec.R) (w : World) (hv : RP w v l) (hl : l.length ≤ 1000000) (hm : Rec.may l ≠ 0) :
    Calls Try.prog 12 #[v] w fun e w' => e = .returned (.tuple #[.slice none 0 0, .int .i64 (Rec.may l)]) ∧ Ext w w' := by
  have HS := Lib.hid (sort_err v l w hv hl hm)
  obtain ⟨A, c, rfl⟩ := hv.form
  have h2 : (Rec.may l != 0) = true := by simpa using hm
  generalize Rec.may l = m at *
  clear hv hm
  go_enter Try.func12, Try.ntmps12
  go_wp2_with fail
  refine HS.out.mono ?_
  rintro e w1 ⟨rfl, he1⟩
  go_wp2
  go_ret2
  exact ⟨rfl, he1⟩

set_option maxRecDepth 100000 in
set_option maxHeartbeats 2000000 in
theorem enc_ok (v : Value) (l : List Rec.R) (w : World) (hv : RP w v l) (hl : l.length ≤ 1000000) (hm : Rec.may l = 0) :
    Calls Try.prog 12 #[v] w fun e w' => ∃ u, e = .returned (.tuple #[u, .int .i64 0]) ∧ OB 5 w.heap.size w' u (Rec.encL l) ∧ Ext w w' := by
  have HS := Lib.hid (sort_ok v l w hv hl hm)
  obtain ⟨hok, hlm⟩ := Rec.may_ok hm
  have hsl := Rec.srt_len l
  have HOK := Lib.hid (Rec.srt_ok hok)
  have hp8 := Rec.put_le8 (n := l.length) (by omega)
  unfold Rec.encL
  rw [← hsl] at hp8 ⊢
  generalize Rec.srt l = S at *
  have HL := Lib.hid (show S.length ≤ 4096 by omega)
  have HPL := Lib.hid (show (Num.put S.length).length ≤ 4 from hp8.2)
  obtain ⟨A, c, rfl⟩ := hv.form
  have HP := Lib.hid (fun w => put_any S.length w (by have := HL.out; omega))
  clear hv hm hok hlm hl hp8 hsl
  generalize Num.put S.length = p at *
  go_enter Try.func12, Try.ntmps12
  go_wp2_with fail
  refine HS.out.mono ?_
  rintro e w1 ⟨v1, rfl, ho1, he1⟩
  have HO1 := Lib.hid ho1.rp
  have HX1 := Lib.hid he1
  obtain ⟨A1, c1, rfl⟩ := ho1.rp.form
  clear ho1 he1 HS
  go_wp2_with fail
  refine (HP.out _).mono ?_
  rintro e w2 ⟨v2, rfl, ho2, he2⟩
  have HO2 := Lib.hid ho2
  have HX2 := Lib.hid he2
  clear ho2 he2 HP
  go_wp2
  go_loopw [6, 28] (fun o iv wr => ∃ k : Nat, k ≤ S.length ∧ iv = .int .i64 (k : Int) ∧ OB 5 w1.heap.size wr o (p ++ (S.take k).flatMap Rec.recL) ∧ Ext w1 wr) (fun _ iv _ => S.length - (intOf iv).toNat)
  case atStart => exact ⟨0, Nat.zero_le _, rfl, by simpa using HO2.out, HX2.out⟩
  case round =>
    obtain ⟨k, hk, rfl, ho, hext⟩ := hrel
    have HE := Lib.hid hext
    have HO := Lib.hid ho
    obtain ⟨AO, cO, rfl⟩ := ho.form
    have HOUT := Lib.hid (show (p ++ (S.take k).flatMap Rec.recL).length ≤ 100000 by
      have h1 := Rec.flat_len (S.take k) fun x hx => HOK.out x (List.mem_of_mem_take hx)
      have h2 := HPL.out
      have h3 := HL.out
      rw [List.length_take] at h1
      rw [List.length_append]; omega)
    clear ho
    by_cases hlt : k < S.length
    · have g1 : (k : Int) < (S.length : Int) := by omega
      have g0 : 0 ≤ (k : Int) := by omega
      have HLT := Lib.hid hlt
      obtain ⟨bA, oA, rfl, c0, c1⟩ := (HO1.out.ext hext).at_ (k := k) hlt
      have HSN := Lib.hid (Rec.flatMap_snoc Rec.recL S hlt)
      have HRL := Lib.hid (Rec.recL_len (HOK.out _ (List.getElem_mem hlt)))
      have HM := Lib.hid (fun w => mput_rec S[k] w (HOK.out _ (List.getElem_mem hlt)))
      generalize hq : p ++ (S.take k).flatMap Rec.recL = q at *
      have HQ := Lib.hid hq
      generalize S[k] = x at *
      generalize Rec.recL x = xl at *
      obtain ⟨x1, x2⟩ := x
      dsimp only at *
      have hkb : k ≤ 1000000 := by have := HL.out; omega
      clear hext hk hlt hq
      go_upto_region 8 with fail
      have HG3 := Lib.hid ((Ext.refl wr).alloc (.cells #[.int .i64 x1, .int .i64 x2] 23))
      go_wp2_with fail
      refine (HM.out _).mono ?_
      rintro e w4 ⟨v4, rfl, ho4, he4⟩
      have HO4 := Lib.hid ho4.rb
      have HG4 := Lib.hid (HG3.out.trans he4)
      obtain ⟨A4, c4, rfl⟩ := ho4.form
      clear ho4 he4
      go_wp2_with (refine wpList_appBB rfl elemB w1 _ (.tmp 37) (.tmp 38) rfl _ q rfl (HO.out.ext HG4.out) (HE.out.trans HG4.out) _ xl rfl HO4.out (by have := HOUT.out; have := HRL.out; omega) ?_; intro v9 w9 ho9 he9 hg9; have HO9 := Lib.hid ho9; have HE9 := Lib.hid he9; clear ho9 he9 hg9)
      exact ⟨⟨k + 1, HLT.out, by go_num, by rw [HSN.out, ← List.append_assoc, HQ.out]; exact HO9.out, HE9.out⟩, by have := HLT.out; simp [intOf]; omega⟩
    · obtain rfl : k = S.length := by omega
      have g1 : ¬ (S.length : Int) < (S.length : Int) := by omega
      rw [List.take_length] at HO HOUT ⊢
      generalize hq : p ++ S.flatMap Rec.recL = q at *
      have HQ := Lib.hid hq
      clear hext hq
      go_wp2
      go_ret2
      rw [HQ.out]
      exact ⟨_, rfl, HO.out.low HX1.out.size, HX1.out.trans HE.out⟩

set_option maxRecDepth 100000 in
set_option maxHeartbeats 2000000 in
theorem renc_any (v : Value) (l : List Rec.R) (w : World) (hv : RP w v l) (hm : Rec.may l = 0) :
    Calls Try.prog 20 #[v] w fun e w' => ∃ u, e = .returned u ∧ OB 5 w.heap.size w' u (Rec.encL l) ∧ Ext w w' := by
  obtain ⟨hok, hlm⟩ := Rec.may_ok hm
  have HS := Lib.hid (rsort_any l v w hv (by omega))
  have hsl := Rec.srt_len l
  have HOK := Lib.hid (Rec.srt_ok hok)
  have hp8 := Rec.put_le8 (n := l.length) (by omega)
  unfold Rec.encL
  rw [← hsl] at hp8 ⊢
  generalize Rec.srt l = S at *
  have HL := Lib.hid (show S.length ≤ 4096 by omega)
  have HPL := Lib.hid (show (Num.put S.length).length ≤ 4 from hp8.2)
  obtain ⟨A, c, rfl⟩ := hv.form
  have HP := Lib.hid (fun w => rput_any S.length w (by have := HL.out; omega))
  clear hv hm hok hlm hp8 hsl
  generalize Num.put S.length = p at *
  go_enter Try.func20, Try.ntmps20
  go_wp2_with fail
  refine HS.out.mono ?_
  rintro e w1 ⟨v1, rfl, ho1, he1⟩
  have HO1 := Lib.hid ho1.rp
  have HX1 := Lib.hid he1
  obtain ⟨A1, c1, rfl⟩ := ho1.rp.form
  clear ho1 he1 HS
  go_wp2_with fail
  refine (HP.out _).mono ?_
  rintro e w2 ⟨v2, rfl, ho2, he2⟩
  have HO2 := Lib.hid ho2
  have HX2 := Lib.hid he2
  clear ho2 he2 HP
  go_wp2
  go_loopw [4, 5] (fun o iv wr => ∃ k : Nat, k ≤ S.length ∧ iv = .int .i64 (k : Int) ∧ OB 5 w1.heap.size wr o (p ++ (S.take k).flatMap Rec.recL) ∧ Ext w1 wr) (fun _ iv _ => S.length - (intOf iv).toNat)
  case atStart => exact ⟨0, Nat.zero_le _, rfl, by simpa using HO2.out, HX2.out⟩
  case round =>
    obtain ⟨k, hk, rfl, ho, hext⟩ := hrel
    have HE := Lib.hid hext
    have HO := Lib.hid ho
    obtain ⟨AO, cO, rfl⟩ := ho.form
    have HOUT := Lib.hid (show (p ++ (S.take k).flatMap Rec.recL).length ≤ 100000 by
      have h1 := Rec.flat_len (S.take k) fun x hx => HOK.out x (List.mem_of_mem_take hx)
      have h2 := HPL.out
      have h3 := HL.out
      rw [List.length_take] at h1
      rw [List.length_append]; omega)
    clear ho
    by_cases hlt : k < S.length
    · have g1 : (k : Int) < (S.length : Int) := by omega
      have g0 : 0 ≤ (k : Int) := by omega
      have HLT := Lib.hid hlt
      obtain ⟨bA, oA, rfl, c0, c1⟩ := (HO1.out.ext hext).at_ (k := k) hlt
      have HSN := Lib.hid (Rec.flatMap_snoc Rec.recL S hlt)
      have HRL := Lib.hid (Rec.recL_len (HOK.out _ (List.getElem_mem hlt)))
      have HM := Lib.hid (fun w => rmput_rec S[k] w (HOK.out _ (List.getElem_mem hlt)))
      generalize hq : p ++ (S.take k).flatMap Rec.recL = q at *
      have HQ := Lib.hid hq
      generalize S[k] = x at *
      generalize Rec.recL x = xl at *
      obtain ⟨x1, x2⟩ := x
      dsimp only at *
      have hkb : k ≤ 1000000 := by have := HL.out; omega
      clear hext hk hlt hq
      go_wp2_with fail
      refine (HM.out _).mono ?_
      rintro e w4 ⟨v4, rfl, ho4, he4⟩
      have HO4 := Lib.hid ho4.rb
      have HG4 := Lib.hid he4
      obtain ⟨A4, c4, rfl⟩ := ho4.form
      clear ho4 he4
      go_wp2_with (refine wpList_appBB rfl elemB w1 _ (.tmp 17) (.tmp 22) rfl _ q rfl (HO.out.ext HG4.out) (HE.out.trans HG4.out) _ xl rfl HO4.out (by have := HOUT.out; have := HRL.out; omega) ?_; intro v9 w9 ho9 he9 hg9; have HO9 := Lib.hid ho9; have HE9 := Lib.hid he9; clear ho9 he9 hg9)
      exact ⟨⟨k + 1, HLT.out, by go_num, by rw [HSN.out, ← List.append_assoc, HQ.out]; exact HO9.out, HE9.out⟩, by have := HLT.out; simp [intOf]; omega⟩
    · obtain rfl : k = S.length := by omega
      have g1 : ¬ (S.length : Int) < (S.length : Int) := by omega
      rw [List.take_length] at HO HOUT ⊢
      generalize hq : p ++ S.flatMap Rec.recL = q at *
      have HQ := Lib.hid hq
      clear hext hq
      go_wp2
      go_ret
      rw [HQ.out]
      exact ⟨_, rfl, HO.out.low HX1.out.size, HX1.out.trans HE.out⟩
end Go.Proofs.Ytgmaeeihfoicmaa
