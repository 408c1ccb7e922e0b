/-
  entry.may, entry.Sort, Size; the document's May.
-/
import Derived.Test.YtacpomonidmjaaaEntSort
import Derived.Test.YtacpomonidmjaaaEntSorted
namespace Go.Proofs.Ytacpomonidmjaaa
open Go.RowKit Go.Ox Go.Shelf
set_option linter.unusedVariables false
set_option linter.unusedSimpArgs false

theorem chk_drop {l : List Ent.E} {k : Nat} (h : k < l.length) : Ent.chk (l.drop k) = if Ent.okE l[k] = 0 then Ent.chk (l.drop (k + 1)) else Ent.okE l[k] := by
  rw [List.drop_eq_getElem_cons h]; rfl
set_option maxRecDepth 100000 in
set_option maxHeartbeats 2000000 in
theorem mayE_any (v : Value) (l : List Ent.E) (w : World) (hv : RE w v l) (hl : l.length ≤ 1000000) :
    Calls Try.prog 32 #[v] w fun e w' => e = .returned (.int .i64 (Ent.may l)) ∧ Ext w w' := by
  obtain ⟨A, c, rfl⟩ := hv.form
  have HV := Lib.hid hv
  have HL := Lib.hid hl
  have HM := Lib.hid (show Ent.may l = if Ent.chk l ≠ 0 then Ent.chk l else if 16384 < l.length then 3 else 0 from rfl)
  generalize Ent.may l = mm at *
  clear hv
  go_enter Try.func32, Try.ntmps32
  go_wp2
  go_loopw [8] (fun iv wr => ∃ k : Nat, k ≤ l.length ∧ iv = .int .i64 k ∧ Ent.chk l = Ent.chk (l.drop k) ∧ Ext w wr) (fun iv _ => l.length - (intOf iv).toNat)
  case atStart => exact ⟨0, Nat.zero_le _, rfl, rfl, Ext.refl _⟩
  case round =>
    obtain ⟨k, hk, rfl, hp, hext⟩ := hrel
    have HE := Lib.hid hext
    have HP := Lib.hid hp
    clear hp
    by_cases hlt : k < l.length
    · have g1 : (k : Int) < (l.length : Int) := by omega
      have g0 : 0 ≤ (k : Int) := by omega
      have hkb : k ≤ 1000000 := by omega
      have HLT := Lib.hid hlt
      obtain ⟨bA, oA, rfl, c0, c1, c2, c3⟩ := re4 (HV.out.ext hext) hlt
      have HCK := Lib.hid (fun w => checkE_any l[k] w)
      rw [chk_drop hlt] at HP
      have HX := Lib.hid hext
      generalize l[k] = x at *
      generalize Ent.okE x = ox at *
      obtain ⟨⟨x1, x2⟩, x3, x4⟩ := x
      dsimp only at *
      have HXL := Lib.hid ((Ext.refl wr).alloc (.cells #[.int .i64 x1, .int .i64 x2, .int .i64 x3, .int .i64 x4] 28))
      clear hext hlt hk hl
      by_cases hm : ox = 0
      · subst hm
        rw [if_pos rfl] at HP
        go_upto_region 4 with fail
        obtain ⟨d0, d1, d2, d3⟩ := Bx4.new wr 28 x1 x2 x3 x4
        go_wp2_with fail
        refine (HCK.out _).mono ?_
        rintro e w1 ⟨rfl, he1⟩
        go_wp2
        exact ⟨⟨k + 1, HLT.out, by go_num, HP.out, (HX.out.trans HXL.out).trans he1⟩, by have := HLT.out; simp [intOf]; omega⟩
      · rw [if_neg hm] at HP
        have h2 : (ox != 0) = true := by simpa using hm
        have HME := Lib.hid (show mm = ox by rw [HM.out, HP.out, if_pos hm])
        clear hm HP HM
        go_upto_region 4 with fail
        obtain ⟨d0, d1, d2, d3⟩ := Bx4.new wr 28 x1 x2 x3 x4
        go_wp2_with fail
        refine (HCK.out _).mono ?_
        rintro e w1 ⟨rfl, he1⟩
        go_wp2
        go_ret
        rw [HME.out]
        exact ⟨rfl, (HX.out.trans HXL.out).trans he1⟩
    · have hk2 : k = l.length := by omega
      subst hk2
      have g1 : ¬ (l.length : Int) < (l.length : Int) := by omega
      rw [List.drop_length] at HP
      have h0 : Ent.chk l = 0 := HP.out
      by_cases h16 : 16384 < l.length
      · have g2 : (16384 : Int) < (l.length : Int) := by omega
        have HME := Lib.hid (show mm = 3 by rw [HM.out, h0, if_neg (by simp), if_pos h16])
        clear hext h0 h16 HP HM
        go_wp2
        go_ret
        rw [HME.out]
        exact ⟨rfl, HE.out⟩
      · have g2 : ¬ (16384 : Int) < (l.length : Int) := by omega
        have HME := Lib.hid (show mm = 0 by rw [HM.out, h0, if_neg (by simp), if_neg h16])
        clear hext h0 h16 HP HM
        go_wp2
        go_ret
        rw [HME.out]
        exact ⟨rfl, HE.out⟩
set_option maxRecDepth 100000 in
set_option maxHeartbeats 2000000 in
theorem rmayE_any (v : Value) (l : List Ent.E) (w : World) (hv : RE w v l) (hl : l.length ≤ 1000000) :
    Calls Try.prog 10 #[v] w fun e w' => e = .returned (.int .i64 (Ent.may l)) ∧ Ext w w' := by
  obtain ⟨A, c, rfl⟩ := hv.form
  have HV := Lib.hid hv
  have HL := Lib.hid hl
  have HM := Lib.hid (show Ent.may l = if Ent.chk l ≠ 0 then Ent.chk l else if 16384 < l.length then 3 else 0 from rfl)
  generalize Ent.may l = mm at *
  clear hv
  go_enter Try.func10, Try.ntmps10
  go_wp2
  go_loopw [3] (fun iv wr => ∃ k : Nat, k ≤ l.length ∧ iv = .int .i64 k ∧ Ent.chk l = Ent.chk (l.drop k) ∧ Ext w wr) (fun iv _ => l.length - (intOf iv).toNat)
  case atStart => exact ⟨0, Nat.zero_le _, rfl, rfl, Ext.refl _⟩
  case round =>
    obtain ⟨k, hk, rfl, hp, hext⟩ := hrel
    have HE := Lib.hid hext
    have HP := Lib.hid hp
    clear hp
    by_cases hlt : k < l.length
    · have g1 : (k : Int) < (l.length : Int) := by omega
      have g0 : 0 ≤ (k : Int) := by omega
      have hkb : k ≤ 1000000 := by omega
      have HLT := Lib.hid hlt
      obtain ⟨bA, oA, rfl, c0, c1, c2, c3⟩ := re4 (HV.out.ext hext) hlt
      have HCK := Lib.hid (fun w => rcheckE_any l[k] w)
      rw [chk_drop hlt] at HP
      have HX := Lib.hid hext
      generalize l[k] = x at *
      generalize Ent.okE x = ox at *
      obtain ⟨⟨x1, x2⟩, x3, x4⟩ := x
      dsimp only at *
      clear hext hlt hk hl
      by_cases hm : ox = 0
      · subst hm
        rw [if_pos rfl] at HP
        go_wp2_with fail
        refine (HCK.out _).mono ?_
        rintro e w1 ⟨rfl, he1⟩
        go_wp2
        exact ⟨⟨k + 1, HLT.out, by go_num, HP.out, HX.out.trans he1⟩, by have := HLT.out; simp [intOf]; omega⟩
      · rw [if_neg hm] at HP
        have h2 : (ox != 0) = true := by simpa using hm
        have HME := Lib.hid (show mm = ox by rw [HM.out, HP.out, if_pos hm])
        clear hm HP HM
        go_wp2_with fail
        refine (HCK.out _).mono ?_
        rintro e w1 ⟨rfl, he1⟩
        go_wp2
        go_ret
        rw [HME.out]
        exact ⟨rfl, HX.out.trans he1⟩
    · have hk2 : k = l.length := by omega
      subst hk2
      have g1 : ¬ (l.length : Int) < (l.length : Int) := by omega
      rw [List.drop_length] at HP
      have h0 : Ent.chk l = 0 := HP.out
      by_cases h16 : 16384 < l.length
      · have g2 : (16384 : Int) < (l.length : Int) := by omega
        have HME := Lib.hid (show mm = 3 by rw [HM.out, h0, if_neg (by simp), if_pos h16])
        clear hext h0 h16 HP HM
        go_wp2
        go_ret
        rw [HME.out]
        exact ⟨rfl, HE.out⟩
      · have g2 : ¬ (16384 : Int) < (l.length : Int) := by omega
        have HME := Lib.hid (show mm = 0 by rw [HM.out, h0, if_neg (by simp), if_neg h16])
        clear hext h0 h16 HP HM
        go_wp2
        go_ret
        rw [HME.out]
        exact ⟨rfl, HE.out⟩

set_option maxRecDepth 100000 in
set_option maxHeartbeats 1000000 in
theorem sortE_all (v : Value) (l : List Ent.E) (w : World) (hv : RE w v l) (hl : l.length ≤ 1000000) :
    Calls Try.prog 9 #[v] w fun e w' => ∃ u, e = .returned (.tuple #[u, .int .i64 (Ent.may l)]) ∧ RE w' u (if Ent.may l = 0 then Ent.srt l else []) ∧ Ext w w' := by
  have HM := Lib.hid (mayE_any v l w hv hl)
  have HV := Lib.hid hv
  obtain ⟨A, c, rfl⟩ := hv.form
  clear hv
  by_cases hm : Ent.may l = 0
  · rw [if_pos hm, hm]
    rw [hm] at HM
    clear hm
    go_enter Try.func9, Try.ntmps9
    go_wp2_with fail
    refine HM.out.mono ?_
    rintro e w1 ⟨rfl, he1⟩
    have HX1 := Lib.hid he1
    clear he1
    go_wp2_with fail
    refine (cloneE_any _ l w1 (HV.out.ext HX1.out) (by omega)).mono ?_
    rintro e w2 ⟨v2, rfl, ho2, he2⟩
    have HO2 := Lib.hid ho2
    obtain ⟨A2, c2, rfl⟩ := ho2.re.form
    have HX2 := Lib.hid (HX1.out.trans he2)
    clear ho2 he2
    go_wp2_with fail
    refine (sortE_any _ l w1.heap.size w2 HO2.out (by omega)).mono ?_
    rintro e w3 ⟨rfl, s, hp, hs, ho3, hg3⟩
    have hx3 : Ext w w3 := HX2.out.grown hg3 fun k hk => by have := (HO2.out.own.lt k hk).1; have := HX1.out.size; omega
    rw [Ent.srt_is (l := l) hs hp] at ho3
    go_wp2
    go_ret2
    exact ⟨_, rfl, ho3.re, hx3⟩
  · rw [if_neg hm]
    generalize Ent.may l = m at *
    have h2 : (m != 0) = true := by simpa using hm
    clear hm
    go_enter Try.func9, Try.ntmps9
    go_wp2_with fail
    refine HM.out.mono ?_
    rintro e w1 ⟨rfl, he1⟩
    go_wp2
    go_ret2
    exact ⟨_, rfl, RE.nilS _, he1⟩
end Go.Proofs.Ytacpomonidmjaaa
