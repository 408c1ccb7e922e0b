/-
  The walks of RecOrders, RecParts, RecBags.
-/
import Derived.Test.YtgmaeeihfoicmaaRecAny
namespace Go.Ox.Rec
theorem allP_two (a b : List R) : allP [a, b] = if may a = 0 then may b else may a := by
  by_cases h : may a = 0
  · rw [allP_ok h, if_pos h]
    by_cases h2 : may b = 0
    · rw [allP_ok h2, h2]; rfl
    · rw [allP_bad h2]
  · rw [allP_bad h, if_neg h]
theorem may_both {a b : List R} (h : may a = 0) (k : may b = 0) (hl : a.length + b.length ≤ 4096) : may (a ++ b) = 0 := by
  obtain ⟨h1, _⟩ := may_ok h
  obtain ⟨k1, _⟩ := may_ok k
  exact may_of (fun x hx => by
    rcases List.mem_append.1 hx with q | q
    · exact h1 x q
    · exact k1 x q) (by rw [List.length_append]; omega)
theorem may_srt {l : List R} (h : may l = 0) : may (srt l) = 0 := by
  obtain ⟨h1, h2⟩ := may_ok h
  exact may_of (srt_ok h1) (by rw [srt_len]; exact h2)
theorem uni_ok {a b : List R} (h : uniE a b = 0) : may a = 0 ∧ may b = 0 ∧ a.length + b.length ≤ 4096 := by
  unfold uniE at h
  rw [allP_two] at h
  by_cases h1 : may a = 0
  · rw [if_pos h1] at h
    by_cases h2 : may b = 0
    · rw [if_neg (by simpa using h2)] at h
      split at h
      · cases h
      · exact ⟨h1, h2, by omega⟩
    · rw [if_pos h2] at h; exact absurd h h2
  · rw [if_neg h1, if_pos h1] at h; exact absurd h h1
theorem uni_of {a b : List R} (h : may a = 0) (k : may b = 0) (hl : a.length + b.length ≤ 4096) : uniE a b = 0 := by
  unfold uniE
  rw [allP_two, if_pos h, if_neg (by simpa using k), if_neg (by omega)]
theorem uni_flip {a b : List R} : uniE a b = 0 ↔ uniE b a = 0 :=
  ⟨fun h => by obtain ⟨h1, h2, h3⟩ := uni_ok h; exact uni_of h2 h1 (by omega), fun h => by obtain ⟨h1, h2, h3⟩ := uni_ok h; exact uni_of h2 h1 (by omega)⟩
theorem srt_comm (a b : List R) : srt (a ++ b) = srt (b ++ a) := srt_congr List.perm_append_comm
end Go.Ox.Rec
namespace Go.Proofs.Ytgmaeeihfoicmaa
open Go.RowKit Go.Ox Go.Shelf Go.Op
open Go.Ox.Rec (when0 when0_ok when0_no)
attribute [local irreducible] OP RP OB RB
set_option linter.unusedVariables false
set_option linter.unusedSimpArgs false

theorem cmp_bd (a b : Mom.M) : -1 ≤ Mom.cmp a b ∧ Mom.cmp a b ≤ 1 := by
  unfold Mom.cmp
  repeat' split
  all_goals omega
/-- a record's box -/
structure Bx (w : World) (p : Nat) (a b : Int) : Prop where
  c0 : w.cell? ⟨p, 0, none⟩ = some (.int .i64 a)
  c1 : w.cell? ⟨p, 1, none⟩ = some (.int .i64 b)
theorem Bx.ext {w w' : World} {p : Nat} {a b : Int} (h : Bx w p a b) (he : Ext w w') : Bx w' p a b := ⟨he.cell h.c0, he.cell h.c1⟩
theorem Bx.extG {g : Nat} {w w' : World} {p : Nat} {a b : Int} (h : Bx w p a b) (he : ExtG g w w') : Bx w' p a b := ⟨he.ints _ _ _ h.c0, he.ints _ _ _ h.c1⟩
theorem Bx.new (w : World) (T : TypeId) (a b : Int) : Bx (w.alloc (.cells #[.int .i64 a, .int .i64 b] T)) w.heap.size a b := ⟨(Blk.new w T _).cell 0, (Blk.new w T _).cell 1⟩

set_option maxRecDepth 100000 in
set_option maxHeartbeats 1000000 in
theorem recOrders_law (v u : Value) (a b : Rec.R) (w : World) (hv : v = mV a) (hu : u = mV b) :
    Calls Try.prog 5 #[v, u] w fun e w' => e = .returned (.bool true) ∧ Ext w w' := by
  subst hv hu
  have HPA := Lib.hid (fun w => mput_all a w)
  have HPB := Lib.hid (fun w => mput_all b w)
  have HC1 := Lib.hid (fun w => compare_any a b w)
  have HC2 := Lib.hid (fun w => compare_any b a w)
  have HC3 := Lib.hid (fun w => rcompare_any a b w)
  have hfl := Mom.cmp_flip a b
  rw [hfl] at HC2
  have hbd := cmp_bd a b
  have HLE := Lib.hid (show Rec.putE a = 0 → Rec.putE b = 0 → bytesLess (when0 (Rec.putE a) (Rec.recL a)) (when0 (Rec.putE b) (Rec.recL b)) = decide (Mom.cmp a b < 0) from fun h k => by
    rw [h, k, when0_ok rfl, when0_ok rfl]
    have h1 : Rec.ok a = true := by unfold Rec.putE at h; split at h <;> simp_all
    have h2 : Rec.ok b = true := by unfold Rec.putE at k; split at k <;> simp_all
    rw [Rec.rec_less h1 h2]
    exact decide_eq_decide.2 Mom.cmp_lt.symm)
  generalize when0 (Rec.putE a) (Rec.recL a) = la at *
  generalize when0 (Rec.putE b) (Rec.recL b) = lb at *
  generalize Rec.putE a = ea at *
  generalize Rec.putE b = eb at *
  generalize Mom.cmp a b = n at *
  obtain ⟨a1, a2⟩ := a
  obtain ⟨b1, b2⟩ := b
  have hwr : IntKind.i64.wrap (-n) = -n := IntWalk.i64_in _ (by omega)
  clear hfl
  have HB := Lib.hid hbd
  clear hbd
  go_enter Try.func5, Try.ntmps5
  go_upto_region 1 with fail
  have HA0 := Lib.hid ((Bx.new w 23 a1 a2).ext ((Ext.refl _).alloc (.cells #[.int .i64 b1, .int .i64 b2] 23)))
  have HB0 := Lib.hid (Bx.new (w.alloc (.cells #[.int .i64 a1, .int .i64 a2] 23)) 23 b1 b2)
  have HX0 := Lib.hid (((Ext.refl w).alloc (.cells #[.int .i64 a1, .int .i64 a2] 23)).alloc (.cells #[.int .i64 b1, .int .i64 b2] 23))
  have hsz : (w.alloc (.cells #[.int .i64 a1, .int .i64 a2] 23)).heap.size = w.heap.size + 1 := by simp
  rw [hsz] at HB0
  generalize (w.alloc (.cells #[.int .i64 a1, .int .i64 a2] 23)).alloc (.cells #[.int .i64 b1, .int .i64 b2] 23) = w0 at *
  clear hsz
  obtain ⟨c0, c1⟩ := HA0.out
  go_wp2_with fail
  refine (HPA.out _).mono ?_
  rintro e w1 ⟨v1, rfl, ho1, he1⟩
  have HO1 := Lib.hid ho1
  obtain ⟨A1, k1, rfl⟩ := ho1.form
  have HA1 := Lib.hid (HA0.out.ext he1)
  have HB1 := Lib.hid (HB0.out.ext he1)
  have HX1 := Lib.hid (HX0.out.trans he1)
  clear ho1 he1 HA0 HB0 HX0 c0 c1
  obtain ⟨d0, d1⟩ := HB1.out
  go_wp2_with fail
  refine (HPB.out _).mono ?_
  rintro e w2 ⟨v2, rfl, ho2, he2⟩
  have HO2 := Lib.hid ho2
  obtain ⟨A2, k2, rfl⟩ := ho2.form
  have HO1 := Lib.hid (HO1.out.ext he2)
  have HA2 := Lib.hid (HA1.out.ext he2)
  have HB2 := Lib.hid (HB1.out.ext he2)
  have HX2 := Lib.hid (HX1.out.trans he2)
  clear ho2 he2 HA1 HB1 HX1 d0 d1
  obtain ⟨c0, c1⟩ := HA2.out
  obtain ⟨d0, d1⟩ := HB2.out
  go_wp2_with fail
  refine (HC1.out _).mono ?_
  rintro e w3 ⟨rfl, he3⟩
  have HO1 := Lib.hid (HO1.out.ext he3)
  have HO2 := Lib.hid (HO2.out.ext he3)
  have HA3 := Lib.hid (HA2.out.ext he3)
  have HB3 := Lib.hid (HB2.out.ext he3)
  have HX3 := Lib.hid (HX2.out.trans he3)
  clear he3 HA2 HB2 HX2 c0 c1 d0 d1
  go_wp2_with fail
  refine (lives_any _).mono ?_
  rintro e w4 ⟨rfl, he4⟩
  have HO1 := Lib.hid (HO1.out.ext he4)
  have HO2 := Lib.hid (HO2.out.ext he4)
  have HA4 := Lib.hid (HA3.out.ext he4)
  have HB4 := Lib.hid (HB3.out.ext he4)
  have HX4 := Lib.hid (HX3.out.trans he4)
  clear he4 HA3 HB3 HX3
  obtain ⟨c0, c1⟩ := HA4.out
  obtain ⟨d0, d1⟩ := HB4.out
  go_wp2_with fail
  refine (HC3.out _).mono ?_
  rintro e w5 ⟨rfl, he5⟩
  have HO1 := Lib.hid (HO1.out.ext he5)
  have HO2 := Lib.hid (HO2.out.ext he5)
  have HA5 := Lib.hid (HA4.out.ext he5)
  have HB5 := Lib.hid (HB4.out.ext he5)
  have HX5 := Lib.hid (HX4.out.trans he5)
  clear he5 HA4 HB4 HX4 c0 c1 d0 d1
  obtain ⟨c0, c1⟩ := HA5.out
  obtain ⟨d0, d1⟩ := HB5.out
  go_wp2_with fail
  refine (HC2.out _).mono ?_
  rintro e w6 ⟨rfl, he6⟩
  have ho1 := HO1.out.ext he6
  have ho2 := HO2.out.ext he6
  have HX6 := Lib.hid (HX5.out.trans he6)
  clear he6 HA5 HB5 HX5 c0 c1 d0 d1
  have hs1 := strB ho1
  have hs2 := strB ho2
  clear ho1 ho2 HO1 HO2
  by_cases h1 : ea = 0
  · by_cases h2 : eb = 0
    · subst h1 h2
      have HLE := Lib.hid (HLE.out rfl rfl)
      go_upto_region 6 with fail
      go_wp2
      go_ret
      simp only [HLE.out]
      exact ⟨by simp, HX6.out⟩
    · have hn2 : (eb != 0) = true := by simpa using h2
      subst h1
      clear h2 HLE
      go_wp2
      go_ret
      exact ⟨rfl, HX6.out⟩
  · have hn1 : (ea != 0) = true := by simpa using h1
    clear h1 HLE
    go_wp2
    go_ret
    exact ⟨rfl, HX6.out⟩

set_option maxRecDepth 100000 in
set_option maxHeartbeats 400000 in
theorem large_any (A : Option Addr) (n c : Nat) (w : World) : Calls Try.prog 9 #[.slice A n c] w fun e w' => e = .returned (.bool (decide (5000 < (n : Int)))) ∧ w = w' := by
  go_enter Try.func9, Try.ntmps9
  go_wp2
  go_ret
  exact ⟨rfl, rfl⟩
theorem large_is (A : Option Addr) (n c : Nat) (w : World) (b : Bool) (h : decide (5000 < n) = b) : Calls Try.prog 9 #[.slice A n c] w fun e w' => e = .returned (.bool b) ∧ w = w' := by
  refine (large_any A n c w).mono ?_
  rw [← h]
  rintro e w' ⟨rfl, rfl⟩
  exact ⟨by rw [decide_eq_decide.2 (show (5000 < (n : Int)) ↔ 5000 < n by omega)], rfl⟩

set_option maxRecDepth 100000 in
set_option maxHeartbeats 1000000 in
theorem recParts_long (A B : Option Addr) (n m c d : Nat) (w : World) (h : 5000 < n ∨ 5000 < m) :
    Calls Try.prog 7 #[.slice A n c, .slice B m d] w fun e w' => e = .returned (.bool true) ∧ Ext w w' := by
  have HL1 := Lib.hid (fun w b h => large_is A n c w b h)
  have HL2 := Lib.hid (fun w b h => large_is B m d w b h)
  by_cases h1 : 5000 < n
  · have HL1 := Lib.hid (fun w => HL1.out w true (by simpa using h1))
    clear h h1
    go_enter Try.func7, Try.ntmps7
    go_wp2_with fail
    refine (HL1.out _).mono ?_
    rintro e w' ⟨rfl, rfl⟩
    go_wp2_with fail
    refine (lives_any _).mono ?_
    rintro e w1 ⟨rfl, he1⟩
    go_wp2
    go_ret
    exact ⟨rfl, he1⟩
  · have HL1 := Lib.hid (fun w => HL1.out w false (by simpa using h1))
    have HL2 := Lib.hid (fun w => HL2.out w true (by simp; omega))
    clear h h1
    go_enter Try.func7, Try.ntmps7
    go_wp2_with fail
    refine (HL1.out _).mono ?_
    rintro e w' ⟨rfl, rfl⟩
    go_wp2_with fail
    refine (HL2.out _).mono ?_
    rintro e w' ⟨rfl, rfl⟩
    go_wp2_with fail
    refine (lives_any _).mono ?_
    rintro e w1 ⟨rfl, he1⟩
    go_wp2
    go_ret
    exact ⟨rfl, he1⟩

set_option maxRecDepth 100000 in
set_option maxHeartbeats 2000000 in
theorem recParts_any (v u : Value) (a b : List Rec.R) (w : World) (hv : RP w v a) (hu : RP w u b) (ha : a.length ≤ 5000) (hb : b.length ≤ 5000) :
    Calls Try.prog 7 #[v, u] w fun e w' => e = .returned (.bool true) ∧ Ext w w' := by
  have HV := Lib.hid hv
  have HU := Lib.hid hu
  have HU1 := Lib.hid (fun w h1 h2 => union_all v u a b w h1 h2 (by omega) (by omega))
  have HU2 := Lib.hid (fun w h1 h2 => union_all u v b a w h1 h2 (by omega) (by omega))
  have HLEN := Lib.hid (And.intro ha hb)
  obtain ⟨A, c, rfl⟩ := hv.form
  obtain ⟨B, d, rfl⟩ := hu.form
  have HL1 := Lib.hid (fun w => large_is A a.length c w false (by simp; omega))
  have HL2 := Lib.hid (fun w => large_is B b.length d w false (by simp; omega))
  have HFL := Lib.hid (@Rec.uni_flip a b)
  have HOK := Lib.hid (fun h => @Rec.uni_ok a b h)
  clear hv hu ha hb
  generalize he1 : Rec.uniE a b = e1 at *
  generalize he2 : Rec.uniE b a = e2 at *
  clear he1 he2
  go_enter Try.func7, Try.ntmps7
  go_wp2_with fail
  refine (HL1.out _).mono ?_
  rintro e w' ⟨rfl, rfl⟩
  go_wp2_with fail
  refine (HL2.out _).mono ?_
  rintro e w' ⟨rfl, rfl⟩
  go_wp2_with fail
  with_reducible refine (HU1.out _ HV.out HU.out).mono ?_
  rintro e w1 ⟨x1, rfl, hx1, he1⟩
  have HV1 := Lib.hid (HV.out.ext he1)
  have HW1 := Lib.hid (HU.out.ext he1)
  have HO1 := Lib.hid hx1
  have HX1 := Lib.hid he1
  clear hx1 he1
  go_wp2_with fail
  with_reducible refine (HU2.out _ HW1.out HV1.out).mono ?_
  rintro e w2 ⟨x2, rfl, hx2, he2⟩
  have HV2 := Lib.hid (HV1.out.ext he2)
  have HW2 := Lib.hid (HW1.out.ext he2)
  have HO2 := Lib.hid (HO1.out.ext he2)
  have HP2 := Lib.hid hx2
  have HX2 := Lib.hid (HX1.out.trans he2)
  clear hx2 he2 HV1 HW1 HO1 HX1
  go_wp2_with fail
  refine (lives_any _).mono ?_
  rintro e w3 ⟨rfl, he3⟩
  have HV3 := Lib.hid (HV2.out.ext he3)
  have HW3 := Lib.hid (HW2.out.ext he3)
  have HO3 := Lib.hid (HO2.out.ext he3)
  have HP3 := Lib.hid (HP2.out.ext he3)
  have HX3 := Lib.hid (HX2.out.trans he3)
  clear he3 HV2 HW2 HO2 HP2 HX2
  by_cases h1 : e1 = 0
  · have h2 : e2 = 0 := HFL.out.1 h1
    subst h1 h2
    obtain ⟨hm1, hm2, hlen⟩ := HOK.out rfl
    have hms : Rec.may (Rec.srt (a ++ b)) = 0 := Rec.may_srt (Rec.may_both hm1 hm2 hlen)
    have hal : Rec.allP [Rec.srt (a ++ b), b] = 0 := by rw [Rec.allP_two, if_pos hms]; exact hm2
    have hs1 : (Rec.srt (a ++ b)).length ≤ 1000000 := by rw [Rec.srt_len, List.length_append]; omega
    have ho3 : RP w3 x1 (Rec.srt (a ++ b)) := by have := HO3.out; rwa [when0_ok rfl] at this
    have hp3 : RP w3 x2 (Rec.srt (a ++ b)) := by have := HP3.out; rwa [when0_ok rfl, ← Rec.srt_comm] at this
    have HMN := Lib.hid (minus_ok x1 _ _ b w3 ho3 HW3.out hs1 (by omega) hal)
    have hdl := Rec.dif_len (Rec.srt (a ++ b)) b
    have HO4 := Lib.hid ho3
    have HP4 := Lib.hid hp3
    have HSM := Lib.hid (fun y w h k => live_same y (.slice A a.length c) (Rec.dif (Rec.srt (a ++ b)) b) a true w (by rw [Rec.dif_union]; simp) h k (by omega) (by omega))
    clear ho3 hp3 HO3 HP3 hm1 hm2 hlen hms hal hs1 hdl
    go_wp2_with fail
    with_reducible refine HMN.out.mono ?_
    rintro e w4 ⟨y, rfl, hy, he4⟩
    have HY := Lib.hid hy.rp
    have HV4 := Lib.hid (HV3.out.ext he4)
    have HO4 := Lib.hid (HO4.out.ext he4)
    have HP4 := Lib.hid (HP4.out.ext he4)
    have HX4 := Lib.hid (HX3.out.trans he4)
    clear hy he4
    go_wp2_with fail
    with_reducible refine (HSM.out _ _ HY.out HV4.out).mono ?_
    rintro e w5 ⟨rfl, he5⟩
    have HO5 := Lib.hid (HO4.out.ext he5)
    have HP5 := Lib.hid (HP4.out.ext he5)
    have HX5 := Lib.hid (HX4.out.trans he5)
    clear he5
    go_wp2_with fail
    with_reducible refine (live_exact _ _ _ _ true _ (by simp) HO5.out HP5.out).mono ?_
    rintro e w6 ⟨rfl, he6⟩
    go_wp2
    go_ret
    exact ⟨rfl, HX5.out.trans he6⟩
  · have h2 : ¬ e2 = 0 := fun h => h1 (HFL.out.2 h)
    have n1 : (e1 != 0) = true := by simpa using h1
    have n2 : (e1 == 0) = false := by simpa using h1
    have n3 : (e2 == 0) = false := by simpa using h2
    clear h1 h2
    go_wp2_with fail
    refine (lives_any _).mono ?_
    rintro e w4 ⟨rfl, he4⟩
    go_wp2
    go_ret
    exact ⟨rfl, HX3.out.trans he4⟩
theorem recParts_law (v u : Value) (a b : List Rec.R) (w : World) (hv : RP w v a) (hu : RP w u b) :
    Calls Try.prog 7 #[v, u] w fun e w' => e = .returned (.bool true) ∧ Ext w w' := by
  by_cases h : 5000 < a.length ∨ 5000 < b.length
  · obtain ⟨A, c, rfl⟩ := hv.form
    obtain ⟨B, d, rfl⟩ := hu.form
    exact recParts_long A B _ _ c d w h
  · exact recParts_any v u a b w hv hu (by omega) (by omega)

set_option maxRecDepth 100000 in
set_option maxHeartbeats 1000000 in
theorem recBags_long (A B : Option Addr) (n m c d : Nat) (w : World) (h : 5000 < n ∨ 5000 < m) :
    Calls Try.prog 6 #[.slice A n c, .slice B m d] w fun e w' => e = .returned (.bool true) ∧ Ext w w' := by
  have HL1 := Lib.hid (fun w b h => large_is A n c w b h)
  have HL2 := Lib.hid (fun w b h => large_is B m d w b h)
  by_cases h1 : 5000 < n
  · have HL1 := Lib.hid (fun w => HL1.out w true (by simpa using h1))
    clear h h1
    go_enter Try.func6, Try.ntmps6
    go_wp2_with fail
    refine (HL1.out _).mono ?_
    rintro e w' ⟨rfl, rfl⟩
    go_wp2_with fail
    refine (lives_any _).mono ?_
    rintro e w1 ⟨rfl, he1⟩
    go_wp2
    go_ret
    exact ⟨rfl, he1⟩
  · have HL1 := Lib.hid (fun w => HL1.out w false (by simpa using h1))
    have HL2 := Lib.hid (fun w => HL2.out w true (by simp; omega))
    clear h h1
    go_enter Try.func6, Try.ntmps6
    go_wp2_with fail
    refine (HL1.out _).mono ?_
    rintro e w' ⟨rfl, rfl⟩
    go_wp2_with fail
    refine (HL2.out _).mono ?_
    rintro e w' ⟨rfl, rfl⟩
    go_wp2_with fail
    refine (lives_any _).mono ?_
    rintro e w1 ⟨rfl, he1⟩
    go_wp2
    go_ret
    exact ⟨rfl, he1⟩

set_option maxRecDepth 100000 in
set_option maxHeartbeats 4000000 in
theorem recBags_any (v u : Value) (a b : List Rec.R) (w : World) (hv : RP w v a) (hu : RP w u b) (ha : a.length ≤ 5000) (hb : b.length ≤ 5000) :
    Calls Try.prog 6 #[v, u] w fun e w' => e = .returned (.bool true) ∧ Ext w w' := by
  have HV := Lib.hid hv
  have HU := Lib.hid hu
  have HUN := Lib.hid (fun w h1 h2 => union_all v u a b w h1 h2 (by omega) (by omega))
  have HMI := Lib.hid (fun w h1 h2 => minus_all v u a b w h1 h2 (by omega) (by omega))
  have HRM := Lib.hid (fun w h1 h2 => rminus_any v u a b w h1 h2 (by omega) (by omega))
  have HSA := Lib.hid (fun w h1 h2 => same_any v u a b w h1 h2 (by omega) (by omega))
  have HRS := Lib.hid (fun w h1 h2 => rsame_any v u a b w h1 h2 (by omega) (by omega))
  have HMA := Lib.hid (fun w h1 => rmay_any v a w h1 (by omega))
  have HMB := Lib.hid (fun w h1 => rmay_any u b w h1 (by omega))
  have HSO := Lib.hid (fun x w h1 => rsort_any (a ++ b) x w h1 (by rw [List.length_append]; omega))
  have HLEN := Lib.hid (And.intro ha hb)
  obtain ⟨A, c, rfl⟩ := hv.form
  obtain ⟨B, d, rfl⟩ := hu.form
  have HL1 := Lib.hid (fun w => large_is A a.length c w false (by simp; omega))
  have HL2 := Lib.hid (fun w => large_is B b.length d w false (by simp; omega))
  have HAL := Lib.hid (Rec.allP_two a b)
  have HUE := Lib.hid (show Rec.uniE a b = if Rec.allP [a, b] ≠ 0 then Rec.allP [a, b] else if 4096 < a.length + b.length then 31 else 0 from rfl)
  clear hv hu ha hb
  generalize Rec.allP [a, b] = f at *
  generalize Rec.uniE a b = ue at *
  generalize Rec.may a = ma at *
  generalize Rec.may b = mb at *
  generalize decide (Rec.srt a = Rec.srt b) = sm at *
  have hsm : (sm != sm) = false := by simp
  go_enter Try.func6, Try.ntmps6
  go_wp2_with fail
  refine (HL1.out _).mono ?_
  rintro e w' ⟨rfl, rfl⟩
  go_wp2_with fail
  refine (HL2.out _).mono ?_
  rintro e w' ⟨rfl, rfl⟩
  go_wp2_with fail
  with_reducible refine (HUN.out _ HV.out HU.out).mono ?_
  rintro e w1 ⟨x1, rfl, hx1, he1⟩
  have HV1 := Lib.hid (HV.out.ext he1)
  have HW1 := Lib.hid (HU.out.ext he1)
  have HO1 := Lib.hid hx1
  have HX1 := Lib.hid he1
  obtain ⟨A1, c1, rfl⟩ := hx1.form
  clear hx1 he1
  go_wp2_with fail
  with_reducible refine (HMI.out _ HV1.out HW1.out).mono ?_
  rintro e w2 ⟨x2, rfl, hx2, he2⟩
  have HV2 := Lib.hid (HV1.out.ext he2)
  have HW2 := Lib.hid (HW1.out.ext he2)
  have HO2 := Lib.hid (HO1.out.ext he2)
  have HP2 := Lib.hid hx2
  have HX2 := Lib.hid (HX1.out.trans he2)
  obtain ⟨A2, c2, rfl⟩ := hx2.form
  clear hx2 he2 HV1 HW1 HO1 HX1
  go_wp2_with fail
  refine (lives_any _).mono ?_
  rintro e w3 ⟨rfl, he3⟩
  have HV3 := Lib.hid (HV2.out.ext he3)
  have HW3 := Lib.hid (HW2.out.ext he3)
  have HO3 := Lib.hid (HO2.out.ext he3)
  have HP3 := Lib.hid (HP2.out.ext he3)
  have HX3 := Lib.hid (HX2.out.trans he3)
  clear he3 HV2 HW2 HO2 HP2 HX2
  go_wp2_with fail
  with_reducible refine (HSA.out _ HV3.out HW3.out).mono ?_
  rintro e w4 ⟨rfl, he4⟩
  have HV4 := Lib.hid (HV3.out.ext he4)
  have HW4 := Lib.hid (HW3.out.ext he4)
  have HO4 := Lib.hid (HO3.out.ext he4)
  have HP4 := Lib.hid (HP3.out.ext he4)
  have HX4 := Lib.hid (HX3.out.trans he4)
  clear he4 HV3 HW3 HO3 HP3 HX3
  go_wp2_with fail
  with_reducible refine (HRS.out _ HV4.out HW4.out).mono ?_
  rintro e w5 ⟨rfl, he5⟩
  have HV5 := Lib.hid (HV4.out.ext he5)
  have HW5 := Lib.hid (HW4.out.ext he5)
  have HO5 := Lib.hid (HO4.out.ext he5)
  have HP5 := Lib.hid (HP4.out.ext he5)
  have HX5 := Lib.hid (HX4.out.trans he5)
  clear he5 HV4 HW4 HO4 HP4 HX4
  go_wp2_with fail
  with_reducible refine (HMA.out _ HV5.out).mono ?_
  rintro e w6 ⟨rfl, he6⟩
  have HV6 := Lib.hid (HV5.out.ext he6)
  have HW6 := Lib.hid (HW5.out.ext he6)
  have HO6 := Lib.hid (HO5.out.ext he6)
  have HP6 := Lib.hid (HP5.out.ext he6)
  have HX6 := Lib.hid (HX5.out.trans he6)
  clear he6 HV5 HW5 HO5 HP5 HX5
  by_cases hma : ma = 0
  · subst hma
    have hal := HAL.out
    rw [if_pos rfl] at hal
    subst hal
    go_wp2_with fail
    with_reducible refine (HMB.out _ HW6.out).mono ?_
    rintro e w7 ⟨rfl, he7⟩
    have HV7 := Lib.hid (HV6.out.ext he7)
    have HW7 := Lib.hid (HW6.out.ext he7)
    have HO7 := Lib.hid (HO6.out.ext he7)
    have HP7 := Lib.hid (HP6.out.ext he7)
    have HX7 := Lib.hid (HX6.out.trans he7)
    clear he7 HV6 HW6 HO6 HP6 HX6
    by_cases hmb : f = 0
    · subst hmb
      have hue := HUE.out
      rw [if_neg (by simp)] at hue
      have HUE2 := Lib.hid hue
      clear hue HUE
      go_wp2_with fail
      with_reducible refine (HRM.out _ HV7.out HW7.out).mono ?_
      rintro e w8 ⟨y, rfl, hy, he8⟩
      have HY8 := Lib.hid hy.rp
      have HV8 := Lib.hid (HV7.out.ext he8)
      have HW8 := Lib.hid (HW7.out.ext he8)
      have HO8 := Lib.hid (HO7.out.ext he8)
      have HP8 := Lib.hid (HP7.out.ext he8)
      have HX8 := Lib.hid (HX7.out.trans he8)
      clear he8 HV7 HW7 HO7 HP7 HX7 hy
      go_wp2_with fail
      with_reducible refine (live_exact _ _ _ _ true _ (by rw [when0_ok rfl]; simp) HP8.out HY8.out).mono ?_
      rintro e w9 ⟨rfl, he9⟩
      have HV9 := Lib.hid (HV8.out.ext he9)
      have HW9 := Lib.hid (HW8.out.ext he9)
      have HO9 := Lib.hid (HO8.out.ext he9)
      have HX9 := Lib.hid (HX8.out.trans he9)
      clear he9 HV8 HW8 HO8 HP8 HX8
      by_cases hlen : 4096 < a.length + b.length
      · have hue := HUE2.out
        rw [if_pos hlen] at hue
        subst hue
        have hg : (4096 : Int) < ((a.length + b.length : Nat) : Int) := by omega
        have hg2 : (4096 : Int) < (a.length : Int) + (b.length : Int) := by omega
        have hg3 : 4096 < a.length + b.length := hlen
        have hz : ((when0 (31 : Int) (Rec.srt (a ++ b))).length : Nat) = 0 := by rw [when0_no (by decide)]; rfl
        have HZ := Lib.hid hz
        generalize (when0 (31 : Int) (Rec.srt (a ++ b))).length = zn at *
        subst hz
        clear hlen
        go_upto_region 14 with fail
        have HXL := Lib.hid ((Ext.refl w9).alloc (.cells #[] 23))
        have HEL := Lib.hid (own_lit0 w9 23)
        have HVL := Lib.hid (HV9.out.ext HXL.out)
        go_wp2_with (first | (at_builtin; refine wpList_app rfl elemM _ _ _ rfl w9.heap.size _ 0 [] rfl HEL.out.own _ a.length (pV a) rfl HVL.out.rd (one_pV _) (by have := HLEN.out; omega) (by have := HLEN.out; unfold maxLen; omega) HXL.out.size ?_; intro v10 w10 hap; have HO10 := Lib.hid (OP.of0 hap.own); have HX10 := Lib.hid (hap.ext HXL.out rfl HEL.out.own); clear hap) | (at_builtin; refine wpList_app rfl elemM _ _ _ rfl w9.heap.size _ a.length (pV a) rfl HO10.out.own _ b.length (pV b) rfl (HW9.out.ext HX10.out).rd (one_pV _) (by have := HLEN.out; omega) (by have := HLEN.out; unfold maxLen; omega) HX10.out.size ?_; intro v11 w11 hap; have HO11 := Lib.hid (show RP w11 v11 (a ++ b) from (OP.app hap.own).rp); have HX11 := Lib.hid (hap.ext HX10.out rfl HO10.out.own); clear hap; have hfm := HO11.out.form; rw [List.length_append] at hfm; obtain ⟨A11, c11, rfl⟩ := hfm))
        go_wp2
        go_ret
        exact ⟨rfl, HX9.out.trans HX11.out⟩
      · have hue := HUE2.out
        rw [if_neg hlen] at hue
        subst hue
        have hg : ¬ (4096 : Int) < ((a.length + b.length : Nat) : Int) := by omega
        have hg2 : ¬ (4096 : Int) < (a.length : Int) + (b.length : Int) := by omega
        have hg3 : ¬ 4096 < a.length + b.length := hlen
        clear hlen
        go_upto_region 14 with fail
        have HXL := Lib.hid ((Ext.refl w9).alloc (.cells #[] 23))
        have HEL := Lib.hid (own_lit0 w9 23)
        have HVL := Lib.hid (HV9.out.ext HXL.out)
        go_wp2_with (first | (at_builtin; refine wpList_app rfl elemM _ _ _ rfl w9.heap.size _ 0 [] rfl HEL.out.own _ a.length (pV a) rfl HVL.out.rd (one_pV _) (by have := HLEN.out; omega) (by have := HLEN.out; unfold maxLen; omega) HXL.out.size ?_; intro v10 w10 hap; have HO10 := Lib.hid (OP.of0 hap.own); have HX10 := Lib.hid (hap.ext HXL.out rfl HEL.out.own); clear hap) | (at_builtin; refine wpList_app rfl elemM _ _ _ rfl w9.heap.size _ a.length (pV a) rfl HO10.out.own _ b.length (pV b) rfl (HW9.out.ext HX10.out).rd (one_pV _) (by have := HLEN.out; omega) (by have := HLEN.out; unfold maxLen; omega) HX10.out.size ?_; intro v11 w11 hap; have HO11 := Lib.hid (show RP w11 v11 (a ++ b) from (OP.app hap.own).rp); have HX11 := Lib.hid (hap.ext HX10.out rfl HO10.out.own); clear hap; have hfm := HO11.out.form; rw [List.length_append] at hfm; obtain ⟨A11, c11, rfl⟩ := hfm))
        have HO12 := Lib.hid (HO9.out.ext HX11.out)
        go_wp2_with fail
        with_reducible refine (HSO.out _ _ HO11.out).mono ?_
        rintro e w12 ⟨y2, rfl, hy2, he12⟩
        have HY12 := Lib.hid hy2.rp
        have HO13 := Lib.hid (HO12.out.ext he12)
        have HX12 := Lib.hid ((HX9.out.trans HX11.out).trans he12)
        clear hy2 he12
        go_wp2_with fail
        with_reducible refine (live_exact _ _ _ _ true _ (by rw [when0_ok rfl]; simp) HO13.out HY12.out).mono ?_
        rintro e w13 ⟨rfl, he13⟩
        go_wp2
        go_ret
        exact ⟨rfl, HX12.out.trans he13⟩
    · have hue := HUE.out
      rw [if_pos hmb] at hue
      subst hue
      have hn : (ue != 0) = true := by simpa using hmb
      have hz1 : (when0 ue (Rec.srt (a ++ b))).length = 0 := by rw [when0_no hmb]; rfl
      have hz2 : (when0 ue (Rec.dif a b)).length = 0 := by rw [when0_no hmb]; rfl
      generalize (when0 ue (Rec.srt (a ++ b))).length = z1 at *
      generalize (when0 ue (Rec.dif a b)).length = z2 at *
      subst hz1 hz2
      clear hmb
      go_wp2
      go_ret
      exact ⟨rfl, HX7.out⟩
  · have hal := HAL.out
    rw [if_neg hma] at hal
    subst hal
    have hue := HUE.out
    rw [if_pos hma] at hue
    subst hue
    have hn : (ue != 0) = true := by simpa using hma
    have hn2 : (ue == 0) = false := by simpa using hma
    have hz1 : (when0 ue (Rec.srt (a ++ b))).length = 0 := by rw [when0_no hma]; rfl
    have hz2 : (when0 ue (Rec.dif a b)).length = 0 := by rw [when0_no hma]; rfl
    generalize (when0 ue (Rec.srt (a ++ b))).length = z1 at *
    generalize (when0 ue (Rec.dif a b)).length = z2 at *
    subst hz1 hz2
    clear hma
    go_wp2
    go_ret
    exact ⟨rfl, HX6.out⟩
theorem recBags_law (v u : Value) (a b : List Rec.R) (w : World) (hv : RP w v a) (hu : RP w u b) :
    Calls Try.prog 6 #[v, u] w fun e w' => e = .returned (.bool true) ∧ Ext w w' := by
  by_cases h : 5000 < a.length ∨ 5000 < b.length
  · obtain ⟨A, c, rfl⟩ := hv.form
    obtain ⟨B, d, rfl⟩ := hu.form
    exact recBags_long A B _ _ c d w h
  · exact recBags_any v u a b w hv hu (by omega) (by omega)
theorem recOrders_row (w : World) (v : Value) (a : Rec.R) (hv : v = mV a) (u : Value) (b : Rec.R) (hu : u = mV b) :
    Calls Try.prog 5 #[v, u] w fun e w' => e = .returned (.bool true) ∧ Ext w w' := recOrders_law v u a b w hv hu
theorem recParts_row (w : World) (v : Value) (a : List Rec.R) (hv : RP w v a) (u : Value) (b : List Rec.R) (hu : RP w u b) :
    Calls Try.prog 7 #[v, u] w fun e w' => e = .returned (.bool true) ∧ Ext w w' := recParts_law v u a b w hv hu
theorem recBags_row (w : World) (v : Value) (a : List Rec.R) (hv : RP w v a) (u : Value) (b : List Rec.R) (hu : RP w u b) :
    Calls Try.prog 6 #[v, u] w fun e w' => e = .returned (.bool true) ∧ Ext w w' := recBags_law v u a b w hv hu
end Go.Proofs.Ytgmaeeihfoicmaa
