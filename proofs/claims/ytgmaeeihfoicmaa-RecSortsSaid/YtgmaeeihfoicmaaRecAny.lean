/-
  Layer 3: each function's contract whatever the bag; what must come of every program.
-/
import Derived.Test.YtgmaeeihfoicmaaRecComp
import Derived.Test.YtgmaeeihfoicmaaRecMinus
import Derived.Test.YtgmaeeihfoicmaaRecMinR
import Derived.Test.YtgmaeeihfoicmaaRecGrp
import Derived.Test.YtgmaeeihfoicmaaRecEnc
import Derived.Test.YtgmaeeihfoicmaaRecDec
namespace Go.Ox.Rec
/-- what is given where the bags may be, nothing elsewhere -/
def when0 {α : Type} (e : Int) (l : List α) : List α := if e = 0 then l else []
theorem when0_ok {α : Type} {e : Int} {l : List α} (h : e = 0) : when0 e l = l := if_pos h
theorem when0_no {α : Type} {e : Int} {l : List α} (h : e ≠ 0) : when0 e l = [] := if_neg h
def uniE (a b : List R) : Int := if allP [a, b] ≠ 0 then allP [a, b] else if 4096 < a.length + b.length then 31 else 0
def putE (r : R) : Int := if ok r = true then 0 else 30
end Go.Ox.Rec
namespace Go.Proofs.Ytgmaeeihfoicmaa
open Go.RowKit Go.Ox Go.Shelf
open Go.Ox.Rec (when0 when0_ok when0_no)
attribute [local irreducible] OP RP OB RB
set_option linter.unusedVariables false
set_option linter.unusedSimpArgs false

theorem sort_all (v : Value) (l : List Rec.R) (w : World) (hv : RP w v l) (hl : l.length ≤ 1000000) :
    Calls Try.prog 32 #[v] w fun e w' => ∃ u, e = .returned (.tuple #[u, .int .i64 (Rec.may l)]) ∧ RP w' u (when0 (Rec.may l) (Rec.srt l)) ∧ Ext w w' := by
  by_cases h : Rec.may l = 0
  · rw [when0_ok h, h]
    exact (sort_ok v l w hv hl h).mono fun _ _ ⟨u, h1, h2, h3⟩ => ⟨u, h1, h2.rp, h3⟩
  · rw [when0_no h]
    exact (sort_err v l w hv hl h).mono fun _ _ ⟨h1, h3⟩ => ⟨_, h1, RP.nilS _, h3⟩
theorem distinct_all (v : Value) (l : List Rec.R) (w : World) (hv : RP w v l) (hl : l.length ≤ 1000000) :
    Calls Try.prog 33 #[v] w fun e w' => ∃ u, e = .returned (.tuple #[u, .int .i64 (Rec.may l)]) ∧ RP w' u (when0 (Rec.may l) (dis l)) ∧ Ext w w' := by
  by_cases h : Rec.may l = 0
  · rw [when0_ok h, h]
    exact (distinct_ok v l w hv hl h).mono fun _ _ ⟨u, h1, h2, h3⟩ => ⟨u, h1, h2.rp, h3⟩
  · rw [when0_no h]
    exact (distinct_err v l w hv hl h).mono fun _ _ ⟨h1, h3⟩ => ⟨_, h1, RP.nilS _, h3⟩
theorem groups_all (v : Value) (l : List Rec.R) (w : World) (hv : RP w v l) (hl : l.length ≤ 1000000) :
    Calls Try.prog 34 #[v] w fun e w' => ∃ u, e = .returned (.tuple #[u, .int .i64 (Rec.may l)]) ∧ RRS w' u (when0 (Rec.may l) (Rec.grp l)) ∧ Ext w w' := by
  by_cases h : Rec.may l = 0
  · rw [when0_ok h, h]
    exact (groups_ok v l w hv hl h).mono fun _ _ ⟨u, h1, h2, h3⟩ => ⟨u, h1, h2, h3⟩
  · rw [when0_no h]
    exact (groups_err v l w hv hl h).mono fun _ _ ⟨h1, h3⟩ => ⟨_, h1, RV.nil _ _, h3⟩
theorem minus_all (v u : Value) (a b : List Rec.R) (w : World) (hv : RP w v a) (hu : RP w u b) (ha : a.length ≤ 1000000) (hb : b.length ≤ 1000000) :
    Calls Try.prog 28 #[v, u] w fun e w' => ∃ x, e = .returned (.tuple #[x, .int .i64 (Rec.allP [a, b])]) ∧ RP w' x (when0 (Rec.allP [a, b]) (Rec.dif a b)) ∧ Ext w w' := by
  by_cases h : Rec.allP [a, b] = 0
  · rw [when0_ok h, h]
    exact (minus_ok v u a b w hv hu ha hb h).mono fun _ _ ⟨u, h1, h2, h3⟩ => ⟨u, h1, h2.rp, h3⟩
  · rw [when0_no h]
    exact (minus_err v u a b w hv hu ha hb h).mono fun _ _ ⟨h1, h3⟩ => ⟨_, h1, RP.nilS _, h3⟩
theorem union_all (v u : Value) (a b : List Rec.R) (w : World) (hv : RP w v a) (hu : RP w u b) (ha : a.length ≤ 1000000) (hb : b.length ≤ 1000000) :
    Calls Try.prog 27 #[v, u] w fun e w' => ∃ x, e = .returned (.tuple #[x, .int .i64 (Rec.uniE a b)]) ∧ RP w' x (when0 (Rec.uniE a b) (Rec.srt (a ++ b))) ∧ Ext w w' := by
  by_cases h : Rec.allP [a, b] = 0
  · by_cases h2 : 4096 < a.length + b.length
    · have e : Rec.uniE a b = 31 := by unfold Rec.uniE; rw [if_neg (by simpa using h), if_pos h2]
      rw [e, when0_no (by decide)]
      exact (union_many v u a b w hv hu ha hb h h2).mono fun _ _ ⟨h1, h3⟩ => ⟨_, h1, RP.nilS _, h3⟩
    · have e : Rec.uniE a b = 0 := by unfold Rec.uniE; rw [if_neg (by simpa using h), if_neg h2]
      rw [e, when0_ok rfl]
      exact (union_ok v u a b w hv hu ha hb h (by omega)).mono fun _ _ ⟨u, h1, h2, h3⟩ => ⟨u, h1, h2.rp, h3⟩
  · have e : Rec.uniE a b = Rec.allP [a, b] := by unfold Rec.uniE; rw [if_pos h]
    rw [e, when0_no h]
    exact (union_err v u a b w hv hu ha hb h).mono fun _ _ ⟨h1, h3⟩ => ⟨_, h1, RP.nilS _, h3⟩
theorem enc_all (v : Value) (l : List Rec.R) (w : World) (hv : RP w v l) (hl : l.length ≤ 1000000) :
    Calls Try.prog 12 #[v] w fun e w' => ∃ u, e = .returned (.tuple #[u, .int .i64 (Rec.may l)]) ∧ RB w' u (when0 (Rec.may l) (Rec.encL l)) ∧ Ext w w' := by
  by_cases h : Rec.may l = 0
  · rw [when0_ok h, h]
    exact (enc_ok v l w hv hl h).mono fun _ _ ⟨u, h1, h2, h3⟩ => ⟨u, h1, h2.rb, h3⟩
  · rw [when0_no h]
    exact (enc_err v l w hv hl h).mono fun _ _ ⟨h1, h3⟩ => ⟨_, h1, (OB.nilO _ 0 0).rb, h3⟩
theorem mput_all (r : Rec.R) (w : World) : Calls Try.prog 11 #[mV r] w fun e w' => ∃ u, e = .returned (.tuple #[u, .int .i64 (Rec.putE r)]) ∧ RB w' u (when0 (Rec.putE r) (Rec.recL r)) ∧ Ext w w' := by
  unfold Rec.putE
  cases h : Rec.ok r with
  | true => rw [if_pos rfl, when0_ok rfl]; exact (mput_rec r w h).mono fun _ _ ⟨u, h1, h2, h3⟩ => ⟨u, h1, h2.rb, h3⟩
  | false => rw [if_neg (by simp), when0_no (by decide)]; exact (mput_bad r w h).mono fun _ _ ⟨h1, h3⟩ => ⟨_, h1, (OB.nilO _ 0 0).rb, h3⟩
/-- whether a bag is in order, as a word -/
theorem sorted_all (v : Value) (l : List Rec.R) (w : World) (hv : RP w v l) (hl : l.length ≤ 1000000) (b : Bool) (hb : b = true ↔ Rec.Asc l) :
    Calls Try.prog 36 #[v] w fun e w' => e = .returned (.bool b) ∧ Ext w w' :=
  (recSorted_any v l w hv hl).mono fun e w' ⟨c, h1, h2, h3⟩ => ⟨by rw [h1, Bool.eq_iff_iff.2 (h2.trans hb.symm)], h3⟩

/-! ### lives -/
abbrev lA : List Rec.R := [(2, 2), (1, 1), (1, 1)]
abbrev lS : List Rec.R := [(1, 1), (1, 1), (2, 2)]
theorem live_asc : Rec.Asc lS := by unfold Rec.Asc Mom.lt; decide
theorem live_asc2 : ¬ Rec.Asc lA := by unfold Rec.Asc Mom.lt; decide
theorem live_srt : Rec.srt lA = lS := (Rec.srt_is live_asc (by decide)).symm
theorem live_may : Rec.may lA = 0 := by decide
theorem live_all : Rec.allP [lA, [(1, 1)]] = 0 := by decide
theorem live_dif : Rec.dif lA [(1, 1)] = [(1, 1), (2, 2)] := by unfold Rec.dif; rw [live_srt]; decide +kernel
theorem live_grp : Rec.grp lA = [[(1, 1), (1, 1)], [(2, 2)]] := by unfold Rec.grp; rw [live_srt]; decide +kernel
theorem live_enc : (Rec.encL lA).length = 7 := by unfold Rec.encL; rw [live_srt]; simp only [lS, lA, Rec.recL, List.flatMap_cons, List.flatMap_nil, List.length_append, Num.put_len]; decide
theorem live_srt2 : Rec.srt [(1, 1), (2, 2)] = [(1, 1), (2, 2)] := (Rec.srt_is (by unfold Rec.Asc Mom.lt; decide) (List.Perm.refl _)).symm
theorem live_srt3 : Rec.srt lS = lS := (Rec.srt_is live_asc (List.Perm.refl _)).symm
theorem live_cnt : cntR lA (1, 1) = 2 := by decide
theorem live_cmp : Mom.cmp (2, 2) (1, 1) = 1 := by decide +kernel
/-- what lives looks at -/
structure RL (w : World) (n : Nat) (s m b c g : Value) : Prop where
  a : RP w (.slice (some ⟨n, 0, none⟩) 3 3) lA
  s : RP w s lS
  m : RP w m [(1, 1), (2, 2)]
  b : RB w b (Rec.encL lA)
  c : RP w c lS
  g : RRS w g [[(1, 1), (1, 1)], [(2, 2)]]
theorem RL.ext {w w' : World} {n : Nat} {s m b c g : Value} (h : RL w n s m b c g) (he : Ext w w') : RL w' n s m b c g :=
  ⟨h.a.ext he, h.s.ext he, h.m.ext he, h.b.ext he, h.c.ext he, h.g.extE he⟩
theorem live_exact (v u : Value) (l r : List Rec.R) (b : Bool) (w : World) (hb : decide (l = r) = b) (hv : RP w v l) (hu : RP w u r) :
    Calls Try.prog 21 #[v, u] w fun e w' => e = .returned (.bool b) ∧ Ext w w' := by
  refine (exact_any v u l r w hv hu).mono ?_
  rw [hb]
  exact fun _ _ h => h
theorem live_same (v u : Value) (l r : List Rec.R) (b : Bool) (w : World) (hb : decide (Rec.srt l = Rec.srt r) = b) (hv : RP w v l) (hu : RP w u r) (hl : l.length ≤ 1000000) (hr : r.length ≤ 1000000) :
    Calls Try.prog 29 #[v, u] w fun e w' => e = .returned (.bool b) ∧ Ext w w' := by
  refine (same_any v u l r w hv hu hl hr).mono ?_
  rw [hb]
  exact fun _ _ h => h
unseal RP in
theorem live_lo (w : World) (v : Value) (h : Rd w 2 v 1 (((pV lA).take ((1 + 1) * 2)).drop (1 * 2))) : RP w v [(1, 1)] := h
set_option maxRecDepth 100000 in
set_option maxHeartbeats 8000000 in
theorem lives_any (w : World) :
    Calls Try.prog 10 #[] w fun e w' => e = .returned (.bool true) ∧ Ext w w' := by
  have HA0 := Lib.hid (RP.lit w #[.int .i64 2, .int .i64 2, .int .i64 1, .int .i64 1, .int .i64 1, .int .i64 1] 23 3 lA rfl (by omega) rfl)
  have HX0 := Lib.hid ((Ext.refl w).alloc (.cells #[.int .i64 2, .int .i64 2, .int .i64 1, .int .i64 1, .int .i64 1, .int .i64 1] 23))
  obtain ⟨A8, hlo8, rlo8⟩ := Rd.lohi (k := 1) (q := 1) elemM (HA0.out.rd) (by omega) 1 2 rfl rfl
  have HLO := Lib.hid (live_lo _ _ rlo8)
  have hlo8 : ∀ w', (Instr.slice 24 (.slice (some ⟨w.heap.size, 0, none⟩) 3 3) (some (.int .i64 1)) (some (.int .i64 2)) none).run Try.prog w' = .ok (.slice A8 1 2) w' := hlo8
  have HCMP := Lib.hid (fun w => compare_any (2, 2) (1, 1) w)
  rw [live_cmp] at HCMP
  have HCNT := Lib.hid (fun v w (h : RP w v lA) => count_any v lA (1, 1) w h (by decide))
  rw [live_cnt] at HCNT
  have HPUT := Lib.hid (fun w => mput_bad (-1, 0) w (by decide))
  clear rlo8
  go_enter Try.func10, Try.ntmps10
  go_upto_region 2 with fail
  obtain ⟨n, hn⟩ : ∃ n, w.heap.size = n := ⟨_, rfl⟩
  rw [hn] at HA0 hlo8 ⊢
  generalize w.alloc (.cells #[.int .i64 2, .int .i64 2, .int .i64 1, .int .i64 1, .int .i64 1, .int .i64 1] 23) = w0 at *
  clear hn
  go_wp2_with fail
  refine (sort_ok _ lA w0 HA0.out (by decide) live_may).mono ?_
  rintro e w1 ⟨s, rfl, ho1, he1⟩
  rw [live_srt] at ho1
  have HS1 := Lib.hid ho1.rp
  have HA1 := Lib.hid (HA0.out.ext he1)
  have HLO1 := Lib.hid (HLO.out.ext he1)
  have HX1 := Lib.hid (HX0.out.trans he1)
  clear ho1 he1 HLO HX0 HA0
  go_wp2_with fail
  refine (minus_ok _ _ lA [(1, 1)] w1 HA1.out HLO1.out (by decide) (by decide) live_all).mono ?_
  rintro e w2 ⟨m, rfl, ho2, he2⟩
  rw [live_dif] at ho2
  have HM2 := Lib.hid ho2.rp
  obtain ⟨A2, c2, rfl⟩ : ∃ A c, m = .slice A 2 c := ho2.rp.form
  have HA2 := Lib.hid (HA1.out.ext he2)
  have HS2 := Lib.hid (HS1.out.ext he2)
  have HX2 := Lib.hid (HX1.out.trans he2)
  clear ho2 he2 HLO1 HA1 HS1 HX1 hlo8
  go_wp2_with fail
  refine (enc_ok _ lA w2 HA2.out (by decide) live_may).mono ?_
  rintro e w3 ⟨b, rfl, ho3, he3⟩
  have HB3 := Lib.hid ho3.rb
  obtain ⟨A3, c3, hb3⟩ := ho3.form
  rw [live_enc] at hb3
  subst hb3
  have HA3 := Lib.hid (HA2.out.ext he3)
  have HS3 := Lib.hid (HS2.out.ext he3)
  have HM3 := Lib.hid (HM2.out.ext he3)
  have HX3 := Lib.hid (HX2.out.trans he3)
  clear ho3 he3 HA2 HS2 HM2 HX2
  go_wp2_with fail
  refine (dec_any _ (Rec.encL lA) w3 HB3.out (by rw [live_enc]; omega)).mono ?_
  rintro e w4 ⟨c, rfl, ho4, he4⟩
  obtain ⟨q1, q2⟩ := Rec.dec_yes (Rec.enc_dec live_may)
  rw [q2]
  rw [q1, live_srt] at ho4
  have HC4 := Lib.hid ho4.rp
  have HA4 := Lib.hid (HA3.out.ext he4)
  have HS4 := Lib.hid (HS3.out.ext he4)
  have HM4 := Lib.hid (HM3.out.ext he4)
  have HB4 := Lib.hid (HB3.out.ext he4)
  have HX4 := Lib.hid (HX3.out.trans he4)
  clear ho4 he4 HA3 HS3 HM3 HB3 HX3 q1 q2
  go_wp2_with fail
  refine (groups_ok _ lA w4 HA4.out (by decide) live_may).mono ?_
  rintro e w5 ⟨g, rfl, ho5, he5⟩
  rw [live_grp] at ho5
  have HR5 := Lib.hid (RL.mk (HA4.out.ext he5) (HS4.out.ext he5) (HM4.out.ext he5) (HB4.out.ext he5) (HC4.out.ext he5) ho5)
  have HX5 := Lib.hid (HX4.out.trans he5)
  obtain ⟨A5, c5, rfl⟩ : ∃ A c, g = .slice A 2 c := ho5.form
  clear ho5 he5 HA4 HS4 HM4 HB4 HC4 HX4
  go_wp2_with fail
  refine (HPUT.out _).mono ?_
  rintro e w6 ⟨rfl, he6⟩
  have HR6 := Lib.hid (HR5.out.ext he6)
  have HX6 := Lib.hid (HX5.out.trans he6)
  clear he6 HR5 HX5
  go_wp2_with fail
  obtain ⟨b0, o0, hq0, c0, c1⟩ := HR6.out.a.at_ (k := 0) (by decide)
  injection hq0 with hq0
  injection hq0 with hq1 hq2 hq3
  subst hq1 hq2
  obtain ⟨b0, o0, hq0, d0, d1⟩ := HR6.out.a.at_ (k := 1) (by decide)
  injection hq0 with hq0
  injection hq0 with hq1 hq2 hq3
  subst hq1 hq2
  have x0 : w6.cell? ⟨n, 0, none⟩ = some (.int .i64 2) := c0
  have x1 : w6.cell? ⟨n, 1, none⟩ = some (.int .i64 2) := c1
  have y0 : w6.cell? ⟨n, 2, none⟩ = some (.int .i64 1) := d0
  have y1 : w6.cell? ⟨n, 3, none⟩ = some (.int .i64 1) := d1
  clear c0 c1 d0 d1
  have HRS := Lib.hid (fun w (h : RP w (.slice (some ⟨n, 0, none⟩) 3 3) lA) => rsort_any lA _ w h (by decide))
  rw [live_srt] at HRS
  have HS1 := Lib.hid (fun w (h : RP w (.slice (some ⟨n, 0, none⟩) 3 3) lA) (k : RP w s lS) => live_same _ _ lA lS true w (by rw [live_srt, live_srt3]; decide) h k (by decide) (by decide))
  have HS2 := Lib.hid (fun w (h : RP w (.slice (some ⟨n, 0, none⟩) 3 3) lA) (k : RP w (.slice A2 2 c2) [(1, 1), (2, 2)]) => live_same _ _ lA [(1, 1), (2, 2)] false w (by rw [live_srt, live_srt2]; decide) h k (by decide) (by decide))
  have HS3 := Lib.hid (fun w (h : RP w s lS) => sorted_all _ lS w h (by decide) true ⟨fun _ => live_asc, fun _ => rfl⟩)
  have HS4 := Lib.hid (fun w (h : RP w (.slice (some ⟨n, 0, none⟩) 3 3) lA) => sorted_all _ lA w h (by decide) false ⟨fun h => (by cases h), fun h => absurd h live_asc2⟩)
  obtain ⟨As, cs, rfl⟩ := HR6.out.s.form
  obtain ⟨Ac, cc, rfl⟩ := HR6.out.c.form
  refine wp_region_ext (by kernel_rfl) (by rfl) (by rfl) (by kernel_rfl) ?_
  repeat (first | ((first | (refine wpM_move00 Ext.refl rfl rfl rfl ?_) | (refine wpM_move01 Ext.refl rfl rfl rfl rfl ?_)); apply Exists.intro; refine ⟨?_, ?_⟩; · (go_simp; rfl)) | (first | (refine wpM_movek0 Ext.refl rfl rfl rfl ?_) | (refine wpM_movek1 Ext.refl rfl rfl rfl rfl ?_)) | ((first | (refine wpM_val0 Ext.refl rfl ?_) | (refine wpM_val1 Ext.refl rfl rfl ?_)); apply Exists.intro; refine ⟨?_, ?_⟩; · (intro a w' hR; intro h1; (first | (have e1 : _ = _ := h1) | skip); intro h2; (first | (have e2 : _ = _ := h2) | skip); go_simp; rfl)) | ((first | (refine wpM_val0 Ext.refl rfl ?_) | (refine wpM_val1 Ext.refl rfl rfl ?_)); apply Exists.intro; refine ⟨?_, ?_⟩; · (intro a w' hR; intro h1; (first | (have e1 : _ = _ := h1) | skip); go_simp; rfl)) | ((first | (refine wpM_val0 Ext.refl rfl ?_) | (refine wpM_val1 Ext.refl rfl rfl ?_)); apply Exists.intro; refine ⟨?_, ?_⟩; · (intro a w' hR; go_simp; rfl)) | ((first | (refine wpM_val0 Ext.refl rfl ?_) | (refine wpM_val1 Ext.refl rfl rfl ?_)); apply Exists.intro; refine ⟨?_, ?_⟩; · (intro a w' hR; intro h1; (first | (have e1 : _ = _ := h1) | skip); intro h2; (first | (have e2 : _ = _ := h2) | skip); intro h3; (first | (have e3 : _ = _ := h3) | skip); go_simp; rfl)) | (refine wpM_skip1 rfl ?_) | (refine wpM_skipU rfl ?_))
  first | (refine wpM_call0 (fun v w2 => RP w2 v lS) rfl (by first | exact mono_eq | exact (fun _ _ _ ⟨n, h1, h2, h3⟩ k => ⟨n, h1, h2, h3.ext k⟩) | exact (fun _ _ _ h k => RB.ext h k) | exact (fun _ _ _ h k => OB.ext h k) | exact (fun _ _ _ h k => Rd.ext h k) | exact (fun _ _ _ h k => ownsRow_ext h k) | exact (fun _ _ _ h k => RB.extC h k) | exact (fun _ _ _ h k => FB.extC h k) | exact (fun _ _ _ h k => Rd.extC h k) | exact (fun _ _ _ h k => RP.ext h k) | exact (fun _ _ _ h k => RE.ext h k)) ?_ ?_) | (refine wpM_call1 (fun v w2 => RP w2 v lS) rfl rfl (by first | exact mono_eq | exact (fun _ _ _ ⟨n, h1, h2, h3⟩ k => ⟨n, h1, h2, h3.ext k⟩) | exact (fun _ _ _ h k => RB.ext h k) | exact (fun _ _ _ h k => OB.ext h k) | exact (fun _ _ _ h k => Rd.ext h k) | exact (fun _ _ _ h k => ownsRow_ext h k) | exact (fun _ _ _ h k => RB.extC h k) | exact (fun _ _ _ h k => FB.extC h k) | exact (fun _ _ _ h k => Rd.extC h k) | exact (fun _ _ _ h k => RP.ext h k) | exact (fun _ _ _ h k => RE.ext h k)) ?_ ?_)
  · intro a w' hR h1 K hK
    have e1 : _ = _ := h1
    go_simp
    refine (HRS.out w' (HR6.out.a.ext hR)).mono ?_
    rintro e w2 ⟨v, rfl, ho, he⟩
    exact hK _ _ he ho.rp
  first | (refine wpM_call0 (fun v _ => v = .bool true) rfl (by first | exact mono_eq | exact (fun _ _ _ ⟨n, h1, h2, h3⟩ k => ⟨n, h1, h2, h3.ext k⟩) | exact (fun _ _ _ h k => RB.ext h k) | exact (fun _ _ _ h k => OB.ext h k) | exact (fun _ _ _ h k => Rd.ext h k) | exact (fun _ _ _ h k => ownsRow_ext h k) | exact (fun _ _ _ h k => RB.extC h k) | exact (fun _ _ _ h k => FB.extC h k) | exact (fun _ _ _ h k => Rd.extC h k) | exact (fun _ _ _ h k => RP.ext h k) | exact (fun _ _ _ h k => RE.ext h k)) ?_ ?_) | (refine wpM_call1 (fun v _ => v = .bool true) rfl rfl (by first | exact mono_eq | exact (fun _ _ _ ⟨n, h1, h2, h3⟩ k => ⟨n, h1, h2, h3.ext k⟩) | exact (fun _ _ _ h k => RB.ext h k) | exact (fun _ _ _ h k => OB.ext h k) | exact (fun _ _ _ h k => Rd.ext h k) | exact (fun _ _ _ h k => ownsRow_ext h k) | exact (fun _ _ _ h k => RB.extC h k) | exact (fun _ _ _ h k => FB.extC h k) | exact (fun _ _ _ h k => Rd.extC h k) | exact (fun _ _ _ h k => RP.ext h k) | exact (fun _ _ _ h k => RE.ext h k)) ?_ ?_)
  · intro a w' hR h1 h2 K hK
    have e1 : _ = _ := h1
    obtain ⟨x, ex, fx⟩ : ∃ x, a.tmps.getD 55 undef = x ∧ (fun v w2 => RP w2 v lS) x w' := ⟨_, rfl, h2⟩
    go_simp
    refine (live_exact _ _ lS lS true w' (by decide) (HR6.out.s.ext hR) fx).mono ?_
    rintro e w2 ⟨rfl, he⟩
    exact hK _ _ he rfl
  repeat (first | ((first | (refine wpM_move00 Ext.refl rfl rfl rfl ?_) | (refine wpM_move01 Ext.refl rfl rfl rfl rfl ?_)); apply Exists.intro; refine ⟨?_, ?_⟩; · (go_simp; rfl)) | (first | (refine wpM_movek0 Ext.refl rfl rfl rfl ?_) | (refine wpM_movek1 Ext.refl rfl rfl rfl rfl ?_)) | ((first | (refine wpM_val0 Ext.refl rfl ?_) | (refine wpM_val1 Ext.refl rfl rfl ?_)); apply Exists.intro; refine ⟨?_, ?_⟩; · (intro a w' hR; intro h1; (first | (have e1 : _ = _ := h1) | skip); intro h2; (first | (have e2 : _ = _ := h2) | skip); go_simp; rfl)) | ((first | (refine wpM_val0 Ext.refl rfl ?_) | (refine wpM_val1 Ext.refl rfl rfl ?_)); apply Exists.intro; refine ⟨?_, ?_⟩; · (intro a w' hR; intro h1; (first | (have e1 : _ = _ := h1) | skip); go_simp; rfl)) | ((first | (refine wpM_val0 Ext.refl rfl ?_) | (refine wpM_val1 Ext.refl rfl rfl ?_)); apply Exists.intro; refine ⟨?_, ?_⟩; · (intro a w' hR; go_simp; rfl)) | ((first | (refine wpM_val0 Ext.refl rfl ?_) | (refine wpM_val1 Ext.refl rfl rfl ?_)); apply Exists.intro; refine ⟨?_, ?_⟩; · (intro a w' hR; intro h1; (first | (have e1 : _ = _ := h1) | skip); intro h2; (first | (have e2 : _ = _ := h2) | skip); intro h3; (first | (have e3 : _ = _ := h3) | skip); go_simp; rfl)) | (refine wpM_skip1 rfl ?_) | (refine wpM_skipU rfl ?_))
  first | (refine wpM_call0 (fun v _ => v = .bool true) rfl (by first | exact mono_eq | exact (fun _ _ _ ⟨n, h1, h2, h3⟩ k => ⟨n, h1, h2, h3.ext k⟩) | exact (fun _ _ _ h k => RB.ext h k) | exact (fun _ _ _ h k => OB.ext h k) | exact (fun _ _ _ h k => Rd.ext h k) | exact (fun _ _ _ h k => ownsRow_ext h k) | exact (fun _ _ _ h k => RB.extC h k) | exact (fun _ _ _ h k => FB.extC h k) | exact (fun _ _ _ h k => Rd.extC h k) | exact (fun _ _ _ h k => RP.ext h k) | exact (fun _ _ _ h k => RE.ext h k)) ?_ ?_) | (refine wpM_call1 (fun v _ => v = .bool true) rfl rfl (by first | exact mono_eq | exact (fun _ _ _ ⟨n, h1, h2, h3⟩ k => ⟨n, h1, h2, h3.ext k⟩) | exact (fun _ _ _ h k => RB.ext h k) | exact (fun _ _ _ h k => OB.ext h k) | exact (fun _ _ _ h k => Rd.ext h k) | exact (fun _ _ _ h k => ownsRow_ext h k) | exact (fun _ _ _ h k => RB.extC h k) | exact (fun _ _ _ h k => FB.extC h k) | exact (fun _ _ _ h k => Rd.extC h k) | exact (fun _ _ _ h k => RP.ext h k) | exact (fun _ _ _ h k => RE.ext h k)) ?_ ?_)
  · intro a w' hR h1 h2 K hK
    have e1 : _ = _ := h1
    have e2 : _ = _ := h2
    go_simp
    refine (live_exact _ _ lS lS true w' (by decide) (HR6.out.c.ext hR) (HR6.out.s.ext hR)).mono ?_
    rintro e w2 ⟨rfl, he⟩
    exact hK _ _ he rfl
  repeat (first | ((first | (refine wpM_move00 Ext.refl rfl rfl rfl ?_) | (refine wpM_move01 Ext.refl rfl rfl rfl rfl ?_)); apply Exists.intro; refine ⟨?_, ?_⟩; · (go_simp; rfl)) | (first | (refine wpM_movek0 Ext.refl rfl rfl rfl ?_) | (refine wpM_movek1 Ext.refl rfl rfl rfl rfl ?_)) | ((first | (refine wpM_val0 Ext.refl rfl ?_) | (refine wpM_val1 Ext.refl rfl rfl ?_)); apply Exists.intro; refine ⟨?_, ?_⟩; · (intro a w' hR; intro h1; (first | (have e1 : _ = _ := h1) | skip); intro h2; (first | (have e2 : _ = _ := h2) | skip); go_simp; rfl)) | ((first | (refine wpM_val0 Ext.refl rfl ?_) | (refine wpM_val1 Ext.refl rfl rfl ?_)); apply Exists.intro; refine ⟨?_, ?_⟩; · (intro a w' hR; intro h1; (first | (have e1 : _ = _ := h1) | skip); go_simp; rfl)) | ((first | (refine wpM_val0 Ext.refl rfl ?_) | (refine wpM_val1 Ext.refl rfl rfl ?_)); apply Exists.intro; refine ⟨?_, ?_⟩; · (intro a w' hR; go_simp; rfl)) | ((first | (refine wpM_val0 Ext.refl rfl ?_) | (refine wpM_val1 Ext.refl rfl rfl ?_)); apply Exists.intro; refine ⟨?_, ?_⟩; · (intro a w' hR; intro h1; (first | (have e1 : _ = _ := h1) | skip); intro h2; (first | (have e2 : _ = _ := h2) | skip); intro h3; (first | (have e3 : _ = _ := h3) | skip); go_simp; rfl)) | (refine wpM_skip1 rfl ?_) | (refine wpM_skipU rfl ?_))
  first | (refine wpM_call0 (fun v _ => v = .bool true) rfl (by first | exact mono_eq | exact (fun _ _ _ ⟨n, h1, h2, h3⟩ k => ⟨n, h1, h2, h3.ext k⟩) | exact (fun _ _ _ h k => RB.ext h k) | exact (fun _ _ _ h k => OB.ext h k) | exact (fun _ _ _ h k => Rd.ext h k) | exact (fun _ _ _ h k => ownsRow_ext h k) | exact (fun _ _ _ h k => RB.extC h k) | exact (fun _ _ _ h k => FB.extC h k) | exact (fun _ _ _ h k => Rd.extC h k) | exact (fun _ _ _ h k => RP.ext h k) | exact (fun _ _ _ h k => RE.ext h k)) ?_ ?_) | (refine wpM_call1 (fun v _ => v = .bool true) rfl rfl (by first | exact mono_eq | exact (fun _ _ _ ⟨n, h1, h2, h3⟩ k => ⟨n, h1, h2, h3.ext k⟩) | exact (fun _ _ _ h k => RB.ext h k) | exact (fun _ _ _ h k => OB.ext h k) | exact (fun _ _ _ h k => Rd.ext h k) | exact (fun _ _ _ h k => ownsRow_ext h k) | exact (fun _ _ _ h k => RB.extC h k) | exact (fun _ _ _ h k => FB.extC h k) | exact (fun _ _ _ h k => Rd.extC h k) | exact (fun _ _ _ h k => RP.ext h k) | exact (fun _ _ _ h k => RE.ext h k)) ?_ ?_)
  · intro a w' hR h1 h2 K hK
    have e1 : _ = _ := h1
    have e2 : _ = _ := h2
    go_simp
    refine (HS1.out w' (HR6.out.a.ext hR) (HR6.out.s.ext hR)).mono ?_
    rintro e w2 ⟨rfl, he⟩
    exact hK _ _ he rfl
  repeat (first | ((first | (refine wpM_move00 Ext.refl rfl rfl rfl ?_) | (refine wpM_move01 Ext.refl rfl rfl rfl rfl ?_)); apply Exists.intro; refine ⟨?_, ?_⟩; · (go_simp; rfl)) | (first | (refine wpM_movek0 Ext.refl rfl rfl rfl ?_) | (refine wpM_movek1 Ext.refl rfl rfl rfl rfl ?_)) | ((first | (refine wpM_val0 Ext.refl rfl ?_) | (refine wpM_val1 Ext.refl rfl rfl ?_)); apply Exists.intro; refine ⟨?_, ?_⟩; · (intro a w' hR; intro h1; (first | (have e1 : _ = _ := h1) | skip); intro h2; (first | (have e2 : _ = _ := h2) | skip); go_simp; rfl)) | ((first | (refine wpM_val0 Ext.refl rfl ?_) | (refine wpM_val1 Ext.refl rfl rfl ?_)); apply Exists.intro; refine ⟨?_, ?_⟩; · (intro a w' hR; intro h1; (first | (have e1 : _ = _ := h1) | skip); go_simp; rfl)) | ((first | (refine wpM_val0 Ext.refl rfl ?_) | (refine wpM_val1 Ext.refl rfl rfl ?_)); apply Exists.intro; refine ⟨?_, ?_⟩; · (intro a w' hR; go_simp; rfl)) | ((first | (refine wpM_val0 Ext.refl rfl ?_) | (refine wpM_val1 Ext.refl rfl rfl ?_)); apply Exists.intro; refine ⟨?_, ?_⟩; · (intro a w' hR; intro h1; (first | (have e1 : _ = _ := h1) | skip); intro h2; (first | (have e2 : _ = _ := h2) | skip); intro h3; (first | (have e3 : _ = _ := h3) | skip); go_simp; rfl)) | (refine wpM_skip1 rfl ?_) | (refine wpM_skipU rfl ?_))
  first | (refine wpM_call0 (fun v _ => v = .bool false) rfl (by first | exact mono_eq | exact (fun _ _ _ ⟨n, h1, h2, h3⟩ k => ⟨n, h1, h2, h3.ext k⟩) | exact (fun _ _ _ h k => RB.ext h k) | exact (fun _ _ _ h k => OB.ext h k) | exact (fun _ _ _ h k => Rd.ext h k) | exact (fun _ _ _ h k => ownsRow_ext h k) | exact (fun _ _ _ h k => RB.extC h k) | exact (fun _ _ _ h k => FB.extC h k) | exact (fun _ _ _ h k => Rd.extC h k) | exact (fun _ _ _ h k => RP.ext h k) | exact (fun _ _ _ h k => RE.ext h k)) ?_ ?_) | (refine wpM_call1 (fun v _ => v = .bool false) rfl rfl (by first | exact mono_eq | exact (fun _ _ _ ⟨n, h1, h2, h3⟩ k => ⟨n, h1, h2, h3.ext k⟩) | exact (fun _ _ _ h k => RB.ext h k) | exact (fun _ _ _ h k => OB.ext h k) | exact (fun _ _ _ h k => Rd.ext h k) | exact (fun _ _ _ h k => ownsRow_ext h k) | exact (fun _ _ _ h k => RB.extC h k) | exact (fun _ _ _ h k => FB.extC h k) | exact (fun _ _ _ h k => Rd.extC h k) | exact (fun _ _ _ h k => RP.ext h k) | exact (fun _ _ _ h k => RE.ext h k)) ?_ ?_)
  · intro a w' hR h1 h2 K hK
    have e1 : _ = _ := h1
    have e2 : _ = _ := h2
    go_simp
    refine (HS2.out w' (HR6.out.a.ext hR) (HR6.out.m.ext hR)).mono ?_
    rintro e w2 ⟨rfl, he⟩
    exact hK _ _ he rfl
  repeat (first | ((first | (refine wpM_move00 Ext.refl rfl rfl rfl ?_) | (refine wpM_move01 Ext.refl rfl rfl rfl rfl ?_)); apply Exists.intro; refine ⟨?_, ?_⟩; · (go_simp; rfl)) | (first | (refine wpM_movek0 Ext.refl rfl rfl rfl ?_) | (refine wpM_movek1 Ext.refl rfl rfl rfl rfl ?_)) | ((first | (refine wpM_val0 Ext.refl rfl ?_) | (refine wpM_val1 Ext.refl rfl rfl ?_)); apply Exists.intro; refine ⟨?_, ?_⟩; · (intro a w' hR; intro h1; (first | (have e1 : _ = _ := h1) | skip); intro h2; (first | (have e2 : _ = _ := h2) | skip); go_simp; rfl)) | ((first | (refine wpM_val0 Ext.refl rfl ?_) | (refine wpM_val1 Ext.refl rfl rfl ?_)); apply Exists.intro; refine ⟨?_, ?_⟩; · (intro a w' hR; intro h1; (first | (have e1 : _ = _ := h1) | skip); go_simp; rfl)) | ((first | (refine wpM_val0 Ext.refl rfl ?_) | (refine wpM_val1 Ext.refl rfl rfl ?_)); apply Exists.intro; refine ⟨?_, ?_⟩; · (intro a w' hR; go_simp; rfl)) | ((first | (refine wpM_val0 Ext.refl rfl ?_) | (refine wpM_val1 Ext.refl rfl rfl ?_)); apply Exists.intro; refine ⟨?_, ?_⟩; · (intro a w' hR; intro h1; (first | (have e1 : _ = _ := h1) | skip); intro h2; (first | (have e2 : _ = _ := h2) | skip); intro h3; (first | (have e3 : _ = _ := h3) | skip); go_simp; rfl)) | (refine wpM_skip1 rfl ?_) | (refine wpM_skipU rfl ?_))
  first | (refine wpM_call0 (fun v _ => v = .bool true) rfl (by first | exact mono_eq | exact (fun _ _ _ ⟨n, h1, h2, h3⟩ k => ⟨n, h1, h2, h3.ext k⟩) | exact (fun _ _ _ h k => RB.ext h k) | exact (fun _ _ _ h k => OB.ext h k) | exact (fun _ _ _ h k => Rd.ext h k) | exact (fun _ _ _ h k => ownsRow_ext h k) | exact (fun _ _ _ h k => RB.extC h k) | exact (fun _ _ _ h k => FB.extC h k) | exact (fun _ _ _ h k => Rd.extC h k) | exact (fun _ _ _ h k => RP.ext h k) | exact (fun _ _ _ h k => RE.ext h k)) ?_ ?_) | (refine wpM_call1 (fun v _ => v = .bool true) rfl rfl (by first | exact mono_eq | exact (fun _ _ _ ⟨n, h1, h2, h3⟩ k => ⟨n, h1, h2, h3.ext k⟩) | exact (fun _ _ _ h k => RB.ext h k) | exact (fun _ _ _ h k => OB.ext h k) | exact (fun _ _ _ h k => Rd.ext h k) | exact (fun _ _ _ h k => ownsRow_ext h k) | exact (fun _ _ _ h k => RB.extC h k) | exact (fun _ _ _ h k => FB.extC h k) | exact (fun _ _ _ h k => Rd.extC h k) | exact (fun _ _ _ h k => RP.ext h k) | exact (fun _ _ _ h k => RE.ext h k)) ?_ ?_)
  · intro a w' hR h1 K hK
    have e1 : _ = _ := h1
    go_simp
    refine (HS3.out w' (HR6.out.s.ext hR)).mono ?_
    rintro e w2 ⟨rfl, he⟩
    exact hK _ _ he rfl
  repeat (first | ((first | (refine wpM_move00 Ext.refl rfl rfl rfl ?_) | (refine wpM_move01 Ext.refl rfl rfl rfl rfl ?_)); apply Exists.intro; refine ⟨?_, ?_⟩; · (go_simp; rfl)) | (first | (refine wpM_movek0 Ext.refl rfl rfl rfl ?_) | (refine wpM_movek1 Ext.refl rfl rfl rfl rfl ?_)) | ((first | (refine wpM_val0 Ext.refl rfl ?_) | (refine wpM_val1 Ext.refl rfl rfl ?_)); apply Exists.intro; refine ⟨?_, ?_⟩; · (intro a w' hR; intro h1; (first | (have e1 : _ = _ := h1) | skip); intro h2; (first | (have e2 : _ = _ := h2) | skip); go_simp; rfl)) | ((first | (refine wpM_val0 Ext.refl rfl ?_) | (refine wpM_val1 Ext.refl rfl rfl ?_)); apply Exists.intro; refine ⟨?_, ?_⟩; · (intro a w' hR; intro h1; (first | (have e1 : _ = _ := h1) | skip); go_simp; rfl)) | ((first | (refine wpM_val0 Ext.refl rfl ?_) | (refine wpM_val1 Ext.refl rfl rfl ?_)); apply Exists.intro; refine ⟨?_, ?_⟩; · (intro a w' hR; go_simp; rfl)) | ((first | (refine wpM_val0 Ext.refl rfl ?_) | (refine wpM_val1 Ext.refl rfl rfl ?_)); apply Exists.intro; refine ⟨?_, ?_⟩; · (intro a w' hR; intro h1; (first | (have e1 : _ = _ := h1) | skip); intro h2; (first | (have e2 : _ = _ := h2) | skip); intro h3; (first | (have e3 : _ = _ := h3) | skip); go_simp; rfl)) | (refine wpM_skip1 rfl ?_) | (refine wpM_skipU rfl ?_))
  first | (refine wpM_call0 (fun v _ => v = .bool false) rfl (by first | exact mono_eq | exact (fun _ _ _ ⟨n, h1, h2, h3⟩ k => ⟨n, h1, h2, h3.ext k⟩) | exact (fun _ _ _ h k => RB.ext h k) | exact (fun _ _ _ h k => OB.ext h k) | exact (fun _ _ _ h k => Rd.ext h k) | exact (fun _ _ _ h k => ownsRow_ext h k) | exact (fun _ _ _ h k => RB.extC h k) | exact (fun _ _ _ h k => FB.extC h k) | exact (fun _ _ _ h k => Rd.extC h k) | exact (fun _ _ _ h k => RP.ext h k) | exact (fun _ _ _ h k => RE.ext h k)) ?_ ?_) | (refine wpM_call1 (fun v _ => v = .bool false) rfl rfl (by first | exact mono_eq | exact (fun _ _ _ ⟨n, h1, h2, h3⟩ k => ⟨n, h1, h2, h3.ext k⟩) | exact (fun _ _ _ h k => RB.ext h k) | exact (fun _ _ _ h k => OB.ext h k) | exact (fun _ _ _ h k => Rd.ext h k) | exact (fun _ _ _ h k => ownsRow_ext h k) | exact (fun _ _ _ h k => RB.extC h k) | exact (fun _ _ _ h k => FB.extC h k) | exact (fun _ _ _ h k => Rd.extC h k) | exact (fun _ _ _ h k => RP.ext h k) | exact (fun _ _ _ h k => RE.ext h k)) ?_ ?_)
  · intro a w' hR h1 K hK
    have e1 : _ = _ := h1
    go_simp
    refine (HS4.out w' (HR6.out.a.ext hR)).mono ?_
    rintro e w2 ⟨rfl, he⟩
    exact hK _ _ he rfl
  repeat (first | ((first | (refine wpM_move00 Ext.refl rfl rfl rfl ?_) | (refine wpM_move01 Ext.refl rfl rfl rfl rfl ?_)); apply Exists.intro; refine ⟨?_, ?_⟩; · (go_simp; rfl)) | (first | (refine wpM_movek0 Ext.refl rfl rfl rfl ?_) | (refine wpM_movek1 Ext.refl rfl rfl rfl rfl ?_)) | ((first | (refine wpM_val0 Ext.refl rfl ?_) | (refine wpM_val1 Ext.refl rfl rfl ?_)); apply Exists.intro; refine ⟨?_, ?_⟩; · (intro a w' hR; intro h1; (first | (have e1 : _ = _ := h1) | skip); intro h2; (first | (have e2 : _ = _ := h2) | skip); go_simp; rfl)) | ((first | (refine wpM_val0 Ext.refl rfl ?_) | (refine wpM_val1 Ext.refl rfl rfl ?_)); apply Exists.intro; refine ⟨?_, ?_⟩; · (intro a w' hR; intro h1; (first | (have e1 : _ = _ := h1) | skip); go_simp; rfl)) | ((first | (refine wpM_val0 Ext.refl rfl ?_) | (refine wpM_val1 Ext.refl rfl rfl ?_)); apply Exists.intro; refine ⟨?_, ?_⟩; · (intro a w' hR; go_simp; rfl)) | ((first | (refine wpM_val0 Ext.refl rfl ?_) | (refine wpM_val1 Ext.refl rfl rfl ?_)); apply Exists.intro; refine ⟨?_, ?_⟩; · (intro a w' hR; intro h1; (first | (have e1 : _ = _ := h1) | skip); intro h2; (first | (have e2 : _ = _ := h2) | skip); intro h3; (first | (have e3 : _ = _ := h3) | skip); go_simp; rfl)) | (refine wpM_skip1 rfl ?_) | (refine wpM_skipU rfl ?_))
  (first | (refine wpM_val0 Ext.refl rfl ?_) | (refine wpM_val1 Ext.refl rfl rfl ?_)); apply Exists.intro; refine ⟨?_, ?_⟩
  · intro a w' hR h1
    have e1 : _ = _ := h1
    have hl0 := hR.cell y0
    have hl1 := hR.cell y1
    go_simp
    rfl
  first | (refine wpM_call0 (fun v _ => v = .int .i64 2) rfl (by first | exact mono_eq | exact (fun _ _ _ ⟨n, h1, h2, h3⟩ k => ⟨n, h1, h2, h3.ext k⟩) | exact (fun _ _ _ h k => RB.ext h k) | exact (fun _ _ _ h k => OB.ext h k) | exact (fun _ _ _ h k => Rd.ext h k) | exact (fun _ _ _ h k => ownsRow_ext h k) | exact (fun _ _ _ h k => RB.extC h k) | exact (fun _ _ _ h k => FB.extC h k) | exact (fun _ _ _ h k => Rd.extC h k) | exact (fun _ _ _ h k => RP.ext h k) | exact (fun _ _ _ h k => RE.ext h k)) ?_ ?_) | (refine wpM_call1 (fun v _ => v = .int .i64 2) rfl rfl (by first | exact mono_eq | exact (fun _ _ _ ⟨n, h1, h2, h3⟩ k => ⟨n, h1, h2, h3.ext k⟩) | exact (fun _ _ _ h k => RB.ext h k) | exact (fun _ _ _ h k => OB.ext h k) | exact (fun _ _ _ h k => Rd.ext h k) | exact (fun _ _ _ h k => ownsRow_ext h k) | exact (fun _ _ _ h k => RB.extC h k) | exact (fun _ _ _ h k => FB.extC h k) | exact (fun _ _ _ h k => Rd.extC h k) | exact (fun _ _ _ h k => RP.ext h k) | exact (fun _ _ _ h k => RE.ext h k)) ?_ ?_)
  · intro a w' hR h1 h2 K hK
    have e1 : _ = _ := h1
    have e2 : _ = _ := h2
    go_simp
    refine (HCNT.out _ w' (HR6.out.a.ext hR)).mono ?_
    rintro e w2 ⟨rfl, he⟩
    exact hK _ _ he rfl
  repeat (first | ((first | (refine wpM_move00 Ext.refl rfl rfl rfl ?_) | (refine wpM_move01 Ext.refl rfl rfl rfl rfl ?_)); apply Exists.intro; refine ⟨?_, ?_⟩; · (go_simp; rfl)) | (first | (refine wpM_movek0 Ext.refl rfl rfl rfl ?_) | (refine wpM_movek1 Ext.refl rfl rfl rfl rfl ?_)) | ((first | (refine wpM_val0 Ext.refl rfl ?_) | (refine wpM_val1 Ext.refl rfl rfl ?_)); apply Exists.intro; refine ⟨?_, ?_⟩; · (intro a w' hR; intro h1; (first | (have e1 : _ = _ := h1) | skip); intro h2; (first | (have e2 : _ = _ := h2) | skip); go_simp; rfl)) | ((first | (refine wpM_val0 Ext.refl rfl ?_) | (refine wpM_val1 Ext.refl rfl rfl ?_)); apply Exists.intro; refine ⟨?_, ?_⟩; · (intro a w' hR; intro h1; (first | (have e1 : _ = _ := h1) | skip); go_simp; rfl)) | ((first | (refine wpM_val0 Ext.refl rfl ?_) | (refine wpM_val1 Ext.refl rfl rfl ?_)); apply Exists.intro; refine ⟨?_, ?_⟩; · (intro a w' hR; go_simp; rfl)) | ((first | (refine wpM_val0 Ext.refl rfl ?_) | (refine wpM_val1 Ext.refl rfl rfl ?_)); apply Exists.intro; refine ⟨?_, ?_⟩; · (intro a w' hR; intro h1; (first | (have e1 : _ = _ := h1) | skip); intro h2; (first | (have e2 : _ = _ := h2) | skip); intro h3; (first | (have e3 : _ = _ := h3) | skip); go_simp; rfl)) | (refine wpM_skip1 rfl ?_) | (refine wpM_skipU rfl ?_))
  (first | (refine wpM_val0 Ext.refl rfl ?_) | (refine wpM_val1 Ext.refl rfl rfl ?_)); apply Exists.intro; refine ⟨?_, ?_⟩
  · intro a w' hR h1
    have e1 : _ = _ := h1
    have hl0 := hR.cell x0
    have hl1 := hR.cell x1
    go_simp
    rfl
  repeat (first | ((first | (refine wpM_move00 Ext.refl rfl rfl rfl ?_) | (refine wpM_move01 Ext.refl rfl rfl rfl rfl ?_)); apply Exists.intro; refine ⟨?_, ?_⟩; · (go_simp; rfl)) | (first | (refine wpM_movek0 Ext.refl rfl rfl rfl ?_) | (refine wpM_movek1 Ext.refl rfl rfl rfl rfl ?_)) | ((first | (refine wpM_val0 Ext.refl rfl ?_) | (refine wpM_val1 Ext.refl rfl rfl ?_)); apply Exists.intro; refine ⟨?_, ?_⟩; · (intro a w' hR; intro h1; (first | (have e1 : _ = _ := h1) | skip); intro h2; (first | (have e2 : _ = _ := h2) | skip); go_simp; rfl)) | ((first | (refine wpM_val0 Ext.refl rfl ?_) | (refine wpM_val1 Ext.refl rfl rfl ?_)); apply Exists.intro; refine ⟨?_, ?_⟩; · (intro a w' hR; intro h1; (first | (have e1 : _ = _ := h1) | skip); go_simp; rfl)) | ((first | (refine wpM_val0 Ext.refl rfl ?_) | (refine wpM_val1 Ext.refl rfl rfl ?_)); apply Exists.intro; refine ⟨?_, ?_⟩; · (intro a w' hR; go_simp; rfl)) | ((first | (refine wpM_val0 Ext.refl rfl ?_) | (refine wpM_val1 Ext.refl rfl rfl ?_)); apply Exists.intro; refine ⟨?_, ?_⟩; · (intro a w' hR; intro h1; (first | (have e1 : _ = _ := h1) | skip); intro h2; (first | (have e2 : _ = _ := h2) | skip); intro h3; (first | (have e3 : _ = _ := h3) | skip); go_simp; rfl)) | (refine wpM_skip1 rfl ?_) | (refine wpM_skipU rfl ?_))
  (first | (refine wpM_val0 Ext.refl rfl ?_) | (refine wpM_val1 Ext.refl rfl rfl ?_)); apply Exists.intro; refine ⟨?_, ?_⟩
  · intro a w' hR h1
    have e1 : _ = _ := h1
    have hl0 := hR.cell y0
    have hl1 := hR.cell y1
    go_simp
    rfl
  first | (refine wpM_call0 (fun v _ => v = .int .i64 1) rfl (by first | exact mono_eq | exact (fun _ _ _ ⟨n, h1, h2, h3⟩ k => ⟨n, h1, h2, h3.ext k⟩) | exact (fun _ _ _ h k => RB.ext h k) | exact (fun _ _ _ h k => OB.ext h k) | exact (fun _ _ _ h k => Rd.ext h k) | exact (fun _ _ _ h k => ownsRow_ext h k) | exact (fun _ _ _ h k => RB.extC h k) | exact (fun _ _ _ h k => FB.extC h k) | exact (fun _ _ _ h k => Rd.extC h k) | exact (fun _ _ _ h k => RP.ext h k) | exact (fun _ _ _ h k => RE.ext h k)) ?_ ?_) | (refine wpM_call1 (fun v _ => v = .int .i64 1) rfl rfl (by first | exact mono_eq | exact (fun _ _ _ ⟨n, h1, h2, h3⟩ k => ⟨n, h1, h2, h3.ext k⟩) | exact (fun _ _ _ h k => RB.ext h k) | exact (fun _ _ _ h k => OB.ext h k) | exact (fun _ _ _ h k => Rd.ext h k) | exact (fun _ _ _ h k => ownsRow_ext h k) | exact (fun _ _ _ h k => RB.extC h k) | exact (fun _ _ _ h k => FB.extC h k) | exact (fun _ _ _ h k => Rd.extC h k) | exact (fun _ _ _ h k => RP.ext h k) | exact (fun _ _ _ h k => RE.ext h k)) ?_ ?_)
  · intro a w' hR h1 h2 K hK
    have e1 : _ = _ := h1
    have e2 : _ = _ := h2
    go_simp
    refine (HCMP.out w').mono ?_
    rintro e w2 ⟨rfl, he⟩
    exact hK _ _ he rfl
  repeat (first | ((first | (refine wpM_move00 Ext.refl rfl rfl rfl ?_) | (refine wpM_move01 Ext.refl rfl rfl rfl rfl ?_)); apply Exists.intro; refine ⟨?_, ?_⟩; · (go_simp; rfl)) | (first | (refine wpM_movek0 Ext.refl rfl rfl rfl ?_) | (refine wpM_movek1 Ext.refl rfl rfl rfl rfl ?_)) | ((first | (refine wpM_val0 Ext.refl rfl ?_) | (refine wpM_val1 Ext.refl rfl rfl ?_)); apply Exists.intro; refine ⟨?_, ?_⟩; · (intro a w' hR; intro h1; (first | (have e1 : _ = _ := h1) | skip); intro h2; (first | (have e2 : _ = _ := h2) | skip); go_simp; rfl)) | ((first | (refine wpM_val0 Ext.refl rfl ?_) | (refine wpM_val1 Ext.refl rfl rfl ?_)); apply Exists.intro; refine ⟨?_, ?_⟩; · (intro a w' hR; intro h1; (first | (have e1 : _ = _ := h1) | skip); go_simp; rfl)) | ((first | (refine wpM_val0 Ext.refl rfl ?_) | (refine wpM_val1 Ext.refl rfl rfl ?_)); apply Exists.intro; refine ⟨?_, ?_⟩; · (intro a w' hR; go_simp; rfl)) | ((first | (refine wpM_val0 Ext.refl rfl ?_) | (refine wpM_val1 Ext.refl rfl rfl ?_)); apply Exists.intro; refine ⟨?_, ?_⟩; · (intro a w' hR; intro h1; (first | (have e1 : _ = _ := h1) | skip); intro h2; (first | (have e2 : _ = _ := h2) | skip); intro h3; (first | (have e3 : _ = _ := h3) | skip); go_simp; rfl)) | (refine wpM_skip1 rfl ?_) | (refine wpM_skipU rfl ?_))
  refine wpM_done ?_
  intro w7 hx7
  iterate 5 (rintro _ rfl)
  rintro v55 h55
  iterate 80 (rintro _ rfl)
  dsimp only [FinV]
  go_simp
  go_wp2
  go_ret
  exact ⟨rfl, HX6.out.trans hx7⟩
end Go.Proofs.Ytgmaeeihfoicmaa
