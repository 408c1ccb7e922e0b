/-
  Layer 23: what must come of every program; the walk of RouteJoins.
-/
import Derived.Test.YtjgcalgjfhjejaaRoute3
namespace Go.Ox.Rt
theorem allP_all : ∀ {ls : List (List Rec.R)}, (∀ x ∈ ls, Rec.may x = 0) → Rec.allP ls = 0
  | [], _ => rfl
  | l :: ls, h => by rw [Rec.allP_ok (h l (List.mem_cons_self ..))]; exact allP_all fun x hx => h x (List.mem_cons_of_mem _ hx)
theorem may_srt {l : List Rec.R} (h : Rec.may l = 0) : Rec.may (Rec.srt l) = 0 := by
  obtain ⟨h1, h2⟩ := Rec.may_ok h
  exact Rec.may_of (Rec.srt_ok h1) (by rw [Rec.srt_len]; exact h2)
/-- what was split is joined again -/
theorem join_spl {l : List Rec.R} (hm : Rec.may l = 0) {n : Nat} (hn : 1 ≤ n) :
    joinE (spl (Rec.srt l) n) = 0 ∧ Rec.srt (spl (Rec.srt l) n).flatten = Rec.srt l ∧ (∀ x ∈ spl (Rec.srt l) n, x.length ≤ 4096) ∧ (spl (Rec.srt l) n).flatten.length = l.length := by
  have hs := may_srt hm
  have hall : ∀ x ∈ spl (Rec.srt l) n, Rec.may x = 0 := fun x hx => by
    obtain ⟨k, hk, rfl⟩ := List.getElem_of_mem hx
    exact spl_may hs hk
  obtain ⟨h1, h2⟩ := spl_flat_may hn hs
  refine ⟨?_, ?_, fun x hx => (Rec.may_ok (hall x hx)).2, by rw [h2, Rec.srt_len]⟩
  · unfold joinE
    rw [allP_all hall, if_neg (by simp), h1]
  · exact Rec.srt_congr ((spl_perm _ hn).trans (Rec.srt_perm l))
/-- what is wrong with what is to be split -/
def splE (l : List Rec.R) (n : Int) : Int := if n < 1 ∨ 8 < n then 1 else Rec.may l
theorem splE_ok {l : List Rec.R} {n : Int} (h : splE l n = 0) : 1 ≤ n ∧ n ≤ 8 ∧ Rec.may l = 0 := by
  unfold splE at h
  split at h
  · cases h
  · exact ⟨by omega, by omega, h⟩
end Go.Ox.Rt
namespace Go.Proofs.Ytjgcalgjfhjejaa
open Go.RowKit Go.Ox Go.Shelf
open Go.Ox.Rec (when0 when0_ok when0_no)
attribute [local irreducible] OP RP
set_option linter.unusedVariables false
set_option linter.unusedSimpArgs false

theorem split_all (v : Value) (l : List Rec.R) (n : Int) (w : World) (hv : RP w v l) (hl : l.length ≤ 1000000) :
    Calls Try.prog 7 #[v, .int .i64 n] w fun e w' => ∃ u, e = .returned (.tuple #[u, .int .i64 (Rt.splE l n)]) ∧ RRS w' u (when0 (Rt.splE l n) (Rt.spl (Rec.srt l) n.toNat)) ∧ Ext w w' := by
  unfold Rt.splE
  by_cases hn : n < 1 ∨ 8 < n
  · rw [if_pos hn, when0_no (by decide)]
    obtain ⟨A, c, rfl⟩ := hv.form
    exact (split_arg A _ c n w hn).mono fun _ _ ⟨h1, h2⟩ => ⟨_, h1, RV.nil _ _, by subst h2; exact Ext.refl _⟩
  · rw [if_neg hn]
    obtain ⟨k, rfl⟩ : ∃ k : Nat, n = k := ⟨n.toNat, by omega⟩
    by_cases hm : Rec.may l = 0
    · rw [hm, when0_ok rfl]
      exact (split_ok v l k w hv hl (by omega) hm).mono fun _ _ ⟨u, h1, h2, h3⟩ => ⟨u, h1, by simpa using h2, h3⟩
    · rw [when0_no hm]
      exact (split_err v l k w hv hl (by omega) hm).mono fun _ _ ⟨h1, h3⟩ => ⟨_, h1, RV.nil _ _, h3⟩
theorem right_is (v : Value) (l : List Rec.R) (s n : Int) (w : World) (hv : RP w v l) (hl : l.length ≤ 1000000) (h : ∀ x ∈ l, Rt.shard x.1 n = s) :
    Calls Try.prog 8 #[v, .int .i64 s, .int .i64 n] w fun e w' => e = .returned (.bool true) ∧ Ext w w' := by
  have e : (!(l.any fun x => decide (Rt.shard x.1 n ≠ s))) = true := by
    rw [Bool.not_eq_true', List.any_eq_false]
    intro x hx
    simp [h x hx]
  refine (right_any v l s n w hv hl).mono ?_
  rw [e]
  exact fun _ _ h => h
theorem live_exact (v u : Value) (l r : List Rec.R) (b : Bool) (w : World) (hb : decide (l = r) = b) (hv : RP w v l) (hu : RP w u r) :
    Calls Try.prog 10 #[v, u] w fun e w' => e = .returned (.bool b) ∧ Ext w w' := by
  refine (exact_any v u l r w hv hu).mono ?_
  rw [hb]
  exact fun _ _ h => h

/-! ### lives -/
abbrev lL : List Rec.R := [(5, 0), (3, 0), (4, 0), (3, 1)]
theorem live_may : Rec.may lL = 0 := by decide
theorem live_splE : Rt.splE lL 3 = 0 := by decide
theorem live_splE9 : Rt.splE lL 9 = 1 := by decide
theorem live_s1 : Rt.shard 5 1 = 0 := by decide +kernel
theorem live_s2 : Rt.shard 1 8 = 7 := by decide +kernel
theorem live_st : Rt.stampE [(5, 0)] (2, 0) = 0 := by decide
set_option maxRecDepth 100000 in
set_option maxHeartbeats 8000000 in
theorem lives_any (w : World) :
    Calls Try.prog 6 #[] w fun e w' => e = .returned (.bool true) ∧ Ext w w' := by
  have HA0 := Lib.hid (RP.lit w #[.int .i64 5, .int .i64 0, .int .i64 3, .int .i64 0, .int .i64 4, .int .i64 0, .int .i64 3, .int .i64 1] 42 4 lL rfl (by omega) rfl)
  have HX0 := Lib.hid ((Ext.refl w).alloc (.cells #[.int .i64 5, .int .i64 0, .int .i64 3, .int .i64 0, .int .i64 4, .int .i64 0, .int .i64 3, .int .i64 1] 42))
  have HSP := Lib.hid (fun v w (h : RP w v lL) => split_all v lL 3 w h (by decide))
  rw [live_splE, when0_ok rfl] at HSP
  have HS9 := Lib.hid (fun v w (h : RP w v lL) => split_all v lL 9 w h (by decide))
  rw [live_splE9, when0_no (by decide)] at HS9
  have HST := Lib.hid (fun v w (h : RP w v [(5, 0)]) => stamp_any v [(5, 0)] (2, 0) w h (by decide))
  rw [live_st, when0_ok rfl] at HST
  obtain ⟨q1, q2, q3, q4⟩ := Rt.join_spl live_may (n := 3) (by omega)
  have HJO := Lib.hid (fun v w (h : RRS w v (Rt.spl (Rec.srt lL) 3)) => join_any v _ w h (fun l hl => Nat.le_trans (q3 l hl) (by omega)) (by rw [q4]; decide))
  rw [q1, when0_ok rfl, q2] at HJO
  have HSH1 := Lib.hid (fun w => shard_any 5 1 w)
  have HSH2 := Lib.hid (fun w => shard_any 1 8 w)
  rw [live_s1] at HSH1
  rw [live_s2] at HSH2
  have hpl := Rt.spl_len (Rec.srt lL) 3
  have hm : 1 < (Rt.spl (Rec.srt lL) 3).length := by rw [hpl]; omega
  obtain ⟨row, hrw⟩ : ∃ row, (Rt.spl (Rec.srt lL) 3)[1]'hm = row := ⟨_, rfl⟩
  have hr1 : row.length ≤ 1000000 := by rw [← hrw]; exact Nat.le_trans (q3 _ (List.getElem_mem _)) (by omega)
  have hr2 : ∀ x ∈ row, Rt.shard x.1 3 = 1 := by rw [← hrw]; exact fun x hx => (Rt.spl_mem hx).2
  have HRI := Lib.hid (fun v w (h : RP w v row) => right_is v row 1 3 w h hr1 hr2)
  have HRS := Lib.hid (fun w v (h : RP w v lL) => rsort_any lL v w h (by decide))
  have HPL := Lib.hid hpl
  change Hid (∀ v w, RP w v lL → Calls Try.prog 7 #[v, .int .i64 3] w fun e w' => ∃ u, e = .returned (.tuple #[u, .int .i64 0]) ∧ RRS w' u (Rt.spl (Rec.srt lL) 3) ∧ Ext w w') at HSP
  clear q1 q2 q3 q4 hpl hr1 hr2
  generalize Rt.spl (Rec.srt lL) 3 = P at *
  generalize Rec.srt lL = S at *
  have HM := Lib.hid hm
  have HRW := Lib.hid hrw
  clear hrw
  go_enter Try.func6, Try.ntmps6
  go_upto_region 2 with fail
  obtain ⟨n, hn⟩ : ∃ n, w.heap.size = n := ⟨_, rfl⟩
  rw [hn] at HA0
  try rw [hn]
  clear hn
  generalize w.alloc (.cells #[.int .i64 5, .int .i64 0, .int .i64 3, .int .i64 0, .int .i64 4, .int .i64 0, .int .i64 3, .int .i64 1] 42) = w0 at *
  go_wp2_with fail
  refine (HSP.out _ _ HA0.out).mono ?_
  rintro e w1 ⟨p, rfl, hp1, he1⟩
  have HP1 := Lib.hid hp1
  obtain ⟨A1, c1, hpf⟩ := hp1.form
  rw [HPL.out] at hpf
  subst hpf
  have HA1 := Lib.hid (HA0.out.ext he1)
  have HX1 := Lib.hid (HX0.out.trans he1)
  clear hp1 he1 HA0 HX0
  go_wp2_with fail
  refine (HJO.out _ _ HP1.out).mono ?_
  rintro e w2 ⟨j, rfl, hj2, he2⟩
  obtain ⟨A2, c2, rfl⟩ := hj2.form
  have HJ2 := Lib.hid hj2
  have HP2 := Lib.hid (HP1.out.extE he2)
  have HA2 := Lib.hid (HA1.out.ext he2)
  have HX2 := Lib.hid (HX1.out.trans he2)
  clear hj2 he2 HP1 HA1 HX1
  have hhi := RP.hi (k := 1) elemM (show RP w2 (.slice (some ⟨n, 0, none⟩) lL.length 4) lL from HA2.out) (by decide)
  obtain ⟨hhi, rhi⟩ := hhi
  have hhi : ∀ w', (Instr.slice 22 (.slice (some ⟨n, 0, none⟩) 4 4) none (some (.int .i64 1)) none).run Try.prog w' = .ok (.slice (some ⟨n, 0, none⟩) 1 4) w' := hhi
  have HHI := Lib.hid (show RP w2 (.slice (some ⟨n, 0, none⟩) 1 4) [(5, 0)] from rhi)
  clear rhi
  go_wp2_with fail
  refine (HST.out _ _ HHI.out).mono ?_
  rintro e w3 ⟨s, rfl, hs3, he3⟩
  obtain ⟨A3, c3, rfl⟩ : ∃ A c, s = .slice A 1 c := hs3.form
  have HS3 := Lib.hid hs3
  have HJ3 := Lib.hid (HJ2.out.ext he3)
  have HP3 := Lib.hid (HP2.out.extE he3)
  have HA3 := Lib.hid (HA2.out.ext he3)
  have HX3 := Lib.hid (HX2.out.trans he3)
  clear hs3 he3 HJ2 HP2 HA2 HX2 HHI hhi
  go_wp2_with fail
  refine (HS9.out _ _ HA3.out).mono ?_
  rintro e w4 ⟨z, rfl, hz4, he4⟩
  have HS4 := Lib.hid (HS3.out.ext he4)
  have HJ4 := Lib.hid (HJ3.out.ext he4)
  have HP4 := Lib.hid (HP3.out.extE he4)
  have HA4 := Lib.hid (HA3.out.ext he4)
  have HX4 := Lib.hid (HX3.out.trans he4)
  clear hz4 he4 HS3 HJ3 HP3 HA3 HX3
  go_wp2_with fail
  refine (HRS.out _ _ HA4.out).mono ?_
  rintro e w5 ⟨t, rfl, ht5, he5⟩
  have HT5 := Lib.hid ht5.rp
  have HS5 := Lib.hid (HS4.out.ext he5)
  have HJ5 := Lib.hid (HJ4.out.ext he5)
  have HP5 := Lib.hid (HP4.out.extE he5)
  have HX5 := Lib.hid (HX4.out.trans he5)
  clear ht5 he5 HS4 HJ4 HP4 HA4 HX4
  go_wp2_with fail
  refine (live_exact _ _ _ _ true _ (by simp) HJ5.out HT5.out).mono ?_
  rintro e w6 ⟨rfl, he6⟩
  have HS6 := Lib.hid (HS5.out.ext he6)
  have HP6 := Lib.hid (HP5.out.extE he6)
  have HX6 := Lib.hid (HX5.out.trans he6)
  clear he6 HS5 HJ5 HP5 HX5 HT5
  obtain ⟨bS, oS, hAS, c0, c1', c2', c3'⟩ := re4 HS6.out (k := 0) (by decide)
  subst hAS
  have c0 : w6.cell? ⟨bS, oS, none⟩ = some (.int .i64 2) := c0
  have c2' : w6.cell? ⟨bS, oS + 2, none⟩ = some (.int .i64 5) := c2'
  clear c1' c3'
  go_wp2_with fail
  refine (HSH1.out _).mono ?_
  rintro e w' ⟨rfl, rfl⟩
  go_wp2_with fail
  refine (HSH2.out _).mono ?_
  rintro e w' ⟨rfl, rfl⟩
  obtain ⟨bP, oP, u, hAP, d0, hu⟩ := HP6.out.at_ HM.out
  subst hAP
  rw [HRW.out] at hu
  obtain ⟨Au, cu, rfl⟩ := hu.form
  have HU := Lib.hid hu
  clear hu
  go_wp2_with fail
  refine (HRI.out _ _ HU.out).mono ?_
  rintro e w7 ⟨rfl, he7⟩
  go_wp2
  go_ret
  exact ⟨rfl, HX6.out.trans he7⟩
end Go.Proofs.Ytjgcalgjfhjejaa
