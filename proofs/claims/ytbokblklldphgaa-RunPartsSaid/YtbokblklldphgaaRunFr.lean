/-
  Package run: Front.
-/
import Derived.Test.YtbokblklldphgaaRun2
namespace Go.Ox.Ent
/-- the front of entries' moments, cut -/
def moms (l : List E) : List Mom.M := l.map (·.1)
def frt (l : List E) : List Mom.M := (Mom.front (moms (srt l))).take 256
theorem front_step (s : List Mom.M) {k : Nat} (h : k < s.length) : Mom.front (s.take (k + 1)) = Mom.step (Mom.front (s.take k)) s[k] := by
  unfold Mom.front
  rw [List.take_succ_eq_append_getElem h, List.foldl_append]; rfl
theorem cut_step (s : List Mom.M) {k : Nat} (h : k < s.length) : (Mom.front (s.take (k + 1))).take 256 = if ((Mom.front (s.take k)).take 256).length < 256 ∧ Mom.covers ((Mom.front (s.take k)).take 256) s[k] = false then (Mom.front (s.take k)).take 256 ++ [s[k]] else (Mom.front (s.take k)).take 256 := by
  rw [front_step s h]
  generalize Mom.front (s.take k) = out
  generalize s[k] = m
  by_cases hl : out.length < 256
  · have e1 : out.take 256 = out := List.take_of_length_le (by omega)
    rw [e1]
    unfold Mom.step
    cases hc : Mom.covers out m with
    | true => rw [if_pos rfl, if_neg (by simp), e1]
    | false => rw [if_neg (by simp), if_pos ⟨hl, rfl⟩]; exact List.take_of_length_le (by rw [List.length_append, List.length_singleton]; omega)
  · rw [if_neg (fun q => by have := q.1; rw [List.length_take] at this; omega)]
    unfold Mom.step
    split
    · rfl
    · rw [List.take_append_of_le_length (by omega)]
end Go.Ox.Ent
namespace Go.Proofs.Ytbokblklldphgaa
open Go.RowKit Go.Ox Go.Shelf
attribute [local irreducible] OE RE RP OP
set_option linter.unusedVariables false
set_option linter.unusedSimpArgs false

set_option maxRecDepth 100000 in
set_option maxHeartbeats 4000000 in
theorem runFront_any {w : World} {g : Nat} {lv : Value} {l : List Ent.E} {a b : Int} (h : RunI 59 w g lv l a b) :
    Calls Try.prog 12 #[.pointer (some ⟨g, 0, none⟩)] w fun e w' => ∃ u, e = .returned u ∧ OP 29 w.heap.size w' u (Ent.frt l) ∧ Ext w w' := by
  have HBD := Lib.hid h.bd
  have HSL := Lib.hid (Ent.srt_len l)
  have HAL := Lib.hid (all_any h)
  have HMN := Lib.hid (show (Ent.moms (Ent.srt l)).length = (Ent.srt l).length from List.length_map _)
  have HMG := Lib.hid (show ∀ (k : Nat) (h1 : k < (Ent.srt l).length) (h2 : k < (Ent.moms (Ent.srt l)).length), (Ent.moms (Ent.srt l))[k] = (Ent.srt l)[k].1 from fun k h1 h2 => List.getElem_map _)
  have HFR := Lib.hid (show (Mom.front ((Ent.moms (Ent.srt l)).take (Ent.srt l).length)).take 256 = Ent.frt l by unfold Ent.frt; rw [List.take_of_length_le (Nat.le_of_eq HMN.out)])
  generalize Ent.frt l = fr at *
  generalize Ent.moms (Ent.srt l) = ms at *
  generalize Ent.srt l = S at *
  clear h
  go_enter Try.func12, Try.ntmps12
  go_wp2_with fail
  refine HAL.out.mono ?_
  rintro e w1 ⟨u, rfl, ho1, he1⟩
  have HS1 := Lib.hid ho1.re
  have HX1 := Lib.hid he1
  obtain ⟨A, c, rfl⟩ := ho1.re.form
  clear ho1 he1
  go_wp2
  go_loopw [3, 9] (fun o iv wr => ∃ k : Nat, k ≤ S.length ∧ iv = .int .i64 (k : Int) ∧ OP 29 w1.heap.size wr o ((Mom.front (ms.take k)).take 256) ∧ Ext w1 wr) (fun _ iv _ => S.length - (intOf iv).toNat)
  case atStart => exact ⟨0, Nat.zero_le _, rfl, OP.nilS _ _ _, Ext.refl _⟩
  case round =>
    obtain ⟨k, hk, rfl, ho, hext⟩ := hrel
    have HE := Lib.hid hext
    have HO := Lib.hid ho
    obtain ⟨AO, cO, rfl⟩ := ho.rp.form
    have hlen : ((Mom.front (ms.take k)).take 256).length ≤ 256 := by rw [List.length_take]; omega
    have HOUT := Lib.hid hlen
    have hkb : k ≤ 1000000 := by have h1 := HSL.out; have h2 := HBD.out; omega
    clear ho
    by_cases hlt : k < S.length
    · have g1 : (k : Int) < (S.length : Int) := by omega
      have g1n : k < S.length := hlt
      have g0 : 0 ≤ (k : Int) := by omega
      have HLT := Lib.hid hlt
      have hk2 : k < ms.length := by have := HMN.out; omega
      obtain ⟨bA, oA, rfl, c0, c1, c2, c3⟩ := re4 (HS1.out.ext hext) hlt
      have HST := Lib.hid (Ent.cut_step ms hk2)
      rw [HMG.out k hlt hk2] at HST
      have HCV := Lib.hid (fun v w h => Mo.covers_any v ((Mom.front (ms.take k)).take 256) S[k].1 w h (by omega))
      generalize (Mom.front (ms.take k)).take 256 = out at *
      generalize S[k] = x at *
      generalize hcv : Mom.covers out x.1 = cv at *
      obtain ⟨⟨x1, x2⟩, x3, x4⟩ := x
      dsimp only at *
      have HXL := Lib.hid ((Ext.refl wr).alloc (.cells #[.int .i64 x1, .int .i64 x2, .int .i64 x3, .int .i64 x4] 33))
      obtain ⟨y0, y1, y2, y3⟩ := Bx4.new wr 33 x1 x2 x3 x4
      clear hext hk hlt hk2 hcv
      go_upto_region 5 with fail
      clear c0 c1 c2 c3
      generalize wr.heap.size = q at *
      generalize wr.alloc (.cells #[.int .i64 x1, .int .i64 x2, .int .i64 x3, .int .i64 x4] 33) = w5 at *
      have HX5 := Lib.hid (HE.out.trans HXL.out)
      have HO5 := Lib.hid (HO.out.ext HXL.out)
      by_cases h256 : out.length < 256
      · have g2 : (out.length : Int) < 256 := by omega
        go_wp2_with fail
        refine (HCV.out _ _ HO5.out.rp).mono ?_
        rintro e w6 ⟨rfl, he6⟩
        have y0 := he6.cell y0
        have y1 := he6.cell y1
        have y2 := he6.cell y2
        have y3 := he6.cell y3
        have HX6 := Lib.hid (HX5.out.trans he6)
        have HO6 := Lib.hid (HO5.out.ext he6)
        cases cv with
        | true =>
          rw [if_neg (by simp)] at HST
          clear he6
          go_wp2
          exact ⟨⟨k + 1, HLT.out, by go_num, by rw [HST.out]; exact HO6.out, HX6.out⟩, by have := HLT.out; simp [intOf]; omega⟩
        | false =>
          rw [if_pos ⟨h256, rfl⟩] at HST
          have HLIT := Lib.hid (RP.lit w6 #[.int .i64 x1, .int .i64 x2] 29 1 [(x1, x2)] rfl (by omega) rfl)
          have HXA := Lib.hid ((Ext.refl w6).alloc (.cells #[.int .i64 x1, .int .i64 x2] 29))
          have HOL := Lib.hid (HO6.out.ext HXA.out)
          have HX7 := Lib.hid (HX6.out.trans HXA.out)
          clear he6
          go_wp2_with (at_builtin; refine wpList_app rfl Mo.elemM _ _ _ rfl w1.heap.size _ out.length _ rfl HOL.out.own _ 1 _ rfl HLIT.out.rd (one_pV _) (by have := HOUT.out; omega) (by have := HOUT.out; unfold maxLen; omega) HX7.out.size ?_; intro v7 w7 ha)
          exact ⟨⟨k + 1, HLT.out, by go_num, by rw [HST.out]; exact OP.app ha.own, ha.ext HX7.out rfl HOL.out.own⟩, by have := HLT.out; simp [intOf]; omega⟩
      · have g2 : ¬ (out.length : Int) < 256 := by omega
        rw [if_neg (fun q => h256 q.1)] at HST
        go_wp2
        exact ⟨⟨k + 1, HLT.out, by go_num, by rw [HST.out]; exact HO5.out, HX5.out⟩, by have := HLT.out; simp [intOf]; omega⟩
    · have hk2 : k = S.length := by omega
      subst hk2
      have g1 : ¬ (S.length : Int) < (S.length : Int) := by omega
      rw [HFR.out] at HO HOUT hlen ⊢
      clear hext
      go_wp2
      go_ret
      exact ⟨_, rfl, OE.op ((OP.oe HO.out).low HX1.out.size), HX1.out.trans HE.out⟩
end Go.Proofs.Ytbokblklldphgaa
