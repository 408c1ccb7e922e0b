/-
  LaLaw, LaArg, packed: what the claim needs of them.
-/
import Derived.Test.YtpmgmiiidfconaaGreatDoorPz43
import Derived.Test.YtpmgmiiidfconaaGreatDoorPz44
import Derived.Test.YtpmgmiiidfconaaGreatDoorPz15
import Derived.Test.YtpmgmiiidfconaaGreatDoorPz37
import Derived.Test.YtpmgmiiidfconaaGreatDoorPz06
import Derived.Test.YtpmgmiiidfconaaGreatDoorPz03
import Derived.LaidSub
import Derived.Lib.LaidTab
import Derived.Shelf.Vars
import Derived.OpenShut
import Derived.KernelRfl
set_option linter.unusedVariables false
set_option linter.unusedSimpArgs false
namespace Go.Proofs.YtpmgmiiidfconaaGreatDoor
open Go.RowKit Go.Ox Go.Ox.Gr Go.Ox.Sc Go.Ox.La Go.Shelf
theorem flat_len : ∀ (l : List Int), (∀ x ∈ l, 0 ≤ x ∧ x < 10000000000) → (l.flatMap fun x => 32 :: Lib.decDigits x.toNat).length ≤ 12 * l.length
  | [], _ => by simp
  | x :: l, h => by
    have h1 := flat_len l (fun y hy => h y (List.mem_cons_of_mem _ hy))
    have h2 := h x (List.mem_cons_self ..)
    have h3 := dec_len10 9 x.toNat (by omega)
    rw [List.flatMap_cons, List.length_append, List.length_cons, List.length_cons]
    omega
theorem actS_short (g : Sc.Act) : (actS g).length ≤ 5000 := by
  by_cases h : actOk g = true
  · obtain ⟨⟨k, n, a, b, t⟩, ks⟩ := g
    have h0 := h
    unfold actOk at h0
    simp only [Bool.and_eq_true, decide_eq_true_eq] at h0
    obtain ⟨⟨⟨⟨⟨⟨⟨hk1, hk2⟩, hn⟩, ha⟩, hb⟩, ht⟩, hl⟩, hks⟩ := h0
    have bn := inR_b hn
    have ba := inR_b ha
    have bb := inR_b hb
    have bt := inR_b ht
    rw [List.all_eq_true] at hks
    unfold actS
    rw [if_pos h]
    dsimp only at *
    have f1 := flat_len [n, a] (by intro x hx; simp at hx; rcases hx with rfl | rfl <;> omega)
    have f2 := flat_len [n] (by intro x hx; simp at hx; subst hx; omega)
    have f3 := flat_len ks (by intro x hx; have := inR_b (hks x hx); omega)
    have f4 := flat_len [a, n, b, t] (by intro x hx; simp at hx; rcases hx with rfl | rfl | rfl | rfl <;> omega)
    simp only [List.length_cons, List.length_nil] at f1 f2 f4
    split
    · rw [List.length_append, List.length_cons, List.length_cons, List.length_cons, List.length_cons, List.length_nil]; omega
    · split
      · rw [List.length_append, List.length_cons, List.length_cons, List.length_cons, List.length_cons, List.length_nil]; omega
      · split
        · rw [List.length_append, List.length_cons, List.length_cons, List.length_cons, List.length_cons, List.length_cons, List.length_nil]; omega
        · split
          · rw [List.length_append, List.length_cons, List.length_cons, List.length_cons, List.length_cons, List.length_nil]; omega
          · rw [List.length_append, List.length_cons, List.length_cons, List.length_cons, List.length_nil]; omega
  · unfold actS
    rw [if_neg h]
    simp
theorem live_w0 : wordsL [] = [] := by rfl
theorem actL_keeps {l : List W} : ((La.actL l).getD zAct).2.length ≤ 256 := by
  cases h : La.actL l with
  | none => simp [zAct]
  | some g =>
    have hg : actOk g = true := by
      cases l with
      | nil => cases h
      | cons x r =>
        unfold La.actL at h
        dsimp only at h
        split at h
        · rename_i hc
          injection h with h
          subst h
          exact hc.2
        · cases h
    unfold actOk at hg
    simp only [Bool.and_eq_true, decide_eq_true_eq] at hg
    exact hg.1.2
attribute [local irreducible] RE OE OB RB wordsL La.actL actOk actS
set_option maxRecDepth 100000 in
set_option maxHeartbeats 16000000 in
theorem langActs_any (line : W) (k n a b t : Int) (u : Value) (ks : List Int) (w : World) (hu : RE w u ks) (ht : Ptb w) :
    Calls Tryz.prog 3 #[strV line, actAg k n a b t u] w fun e w' => e = .returned (.bool true) ∧ Ext w w' := by
  have HX1 := Lib.hid ((Ext.refl w).alloc (actCs k n a b t u))
  have HB1 := Lib.hid (Bx6.new w 24 (.int .i64 k) (.int .i64 n) (.int .i64 a) (.int .i64 b) (.int .i64 t) u)
  have HU1 := Lib.hid (RE.ext hu HX1.out)
  have HT1 := Lib.hid (ht.ext HX1.out)
  obtain ⟨Au, cu, rfl⟩ := hu.form
  obtain ⟨r, hr⟩ : ∃ r, r = w.heap.size := ⟨_, rfl⟩
  clear hu ht
  go_enter Tryz.func3, Tryz.ntmps3
  go_upto_region 1 with fail
  rw [← hr] at HB1 ⊢
  clear hr
  generalize w.alloc (actCs k n a b t (.slice Au ks.length cu)) = w1 at *
  obtain ⟨c0, c1, c2, c3, c4, c5⟩ := HB1.out.at_
  have HL1 := Lib.hid (lives29_any w1 HT1.out)
  by_cases h1 : 3000 < line.length
  · have q1 : (3000 : Int) < (line.length : Int) := by omega
    go_wp2_with fail
    refine HL1.out.mono ?_
    rintro e w2 ⟨rfl, he2⟩
    have HX2 := Lib.hid (HX1.out.trans he2)
    clear he2 c0 c1 c2 c3 c4 c5
    go_wp2
    go_ret
    exact ⟨rfl, HX2.out⟩
  · have q1 : ¬ (3000 : Int) < (line.length : Int) := by omega
    by_cases h2 : 300 < ks.length
    · have q2 : (300 : Int) < (ks.length : Int) := by omega
      go_wp2_with fail
      refine HL1.out.mono ?_
      rintro e w2 ⟨rfl, he2⟩
      have HX2 := Lib.hid (HX1.out.trans he2)
      clear he2 c0 c1 c2 c3 c4 c5
      go_wp2
      go_ret
      exact ⟨rfl, HX2.out⟩
    · have q2 : ¬ (300 : Int) < (ks.length : Int) := by omega
      have HLN := Lib.hid (And.intro h1 h2)
      have HA := Lib.hid (lAct_any line w1 (by omega) HT1.out.m HT1.out.t)
      have HWL := Lib.hid (fun x (hx : x ∈ wordsL line) => words_word line x hx)
      clear h1 h2
      obtain ⟨o1, ho1⟩ : ∃ o, La.actL (wordsL line) = o := ⟨_, rfl⟩
      have HK1 := Lib.hid (show (o1.getD zAct).2.length ≤ 256 from by rw [← ho1]; exact actL_keeps)
      rw [ho1] at HA
      have HO1 := Lib.hid ho1
      obtain ⟨s1, hs1⟩ : ∃ s, o1.isSome = s := ⟨_, rfl⟩
      rw [hs1] at HA
      have HS1 := Lib.hid hs1
      obtain ⟨g, hg⟩ : ∃ g, o1.getD zAct = g := ⟨_, rfl⟩
      rw [hg] at HA HK1
      have HG1 := Lib.hid hg
      clear ho1 hs1 hg
      go_wp2_with fail
      refine HA.out.mono ?_
      rintro e w2 ⟨_, u2, rfl, rfl, hou, he2⟩
      clear c0 c1 c2 c3 c4 c5
      obtain ⟨A5, c59, rfl⟩ := hou.re.form
      have HB5 := Lib.hid (Bx6.new w2 24 (.int .i64 g.1.1) (.int .i64 g.1.2.1) (.int .i64 g.1.2.2.1) (.int .i64 g.1.2.2.2.1) (.int .i64 g.1.2.2.2.2) (.slice A5 g.2.length c59))
      have hal := (Ext.refl w2).alloc (actCs g.1.1 g.1.2.1 g.1.2.2.1 g.1.2.2.2.1 g.1.2.2.2.2 (.slice A5 g.2.length c59))
      have HU5 := Lib.hid (RE.ext hou.re hal)
      have HY5 := Lib.hid (he2.trans hal)
      obtain ⟨p5, hp⟩ : ∃ p, p = w2.heap.size := ⟨_, rfl⟩
      clear hou he2 hal
      go_upto_region 4 with fail
      rw [← hp] at HB5 ⊢
      clear hp
      generalize w2.alloc (actCs g.1.1 g.1.2.1 g.1.2.2.1 g.1.2.2.2.1 g.1.2.2.2.2 (.slice A5 g.2.length c59)) = w3 at *
      have HW := Lib.hid (rwords_any line w3 (by have := HLN.out.1; omega))
      go_wp2_with fail
      refine HW.out.mono ?_
      rintro e w4 ⟨u4, rfl, hou4, he4⟩
      obtain ⟨Aw, cw, rfl⟩ := hou4.re.form
      have HR := Lib.hid (rAct29_any Aw cw (wordsL line) w4 hou4.re (by have h1 := HLN.out.1; have h2 := words_len line; omega) (fun x hx => by have h1 := HLN.out.1; have h2 := HWL.out x hx; omega))
      rw [HO1.out, HS1.out, HG1.out] at HR
      have HE4 := Lib.hid he4
      clear hou4 he4
      go_wp2_with fail
      refine HR.out.mono ?_
      rintro e w5 ⟨_, u2, rfl, rfl, hou, he2⟩
      have he2 := HE4.out.trans he2
      obtain ⟨A7, c79, rfl⟩ := hou.re.form
      have HB7 := Lib.hid (Bx6.new w5 24 (.int .i64 g.1.1) (.int .i64 g.1.2.1) (.int .i64 g.1.2.2.1) (.int .i64 g.1.2.2.2.1) (.int .i64 g.1.2.2.2.2) (.slice A7 g.2.length c79))
      have hal := (Ext.refl w5).alloc (actCs g.1.1 g.1.2.1 g.1.2.2.1 g.1.2.2.2.1 g.1.2.2.2.2 (.slice A7 g.2.length c79))
      have HU7 := Lib.hid (RE.ext hou.re hal)
      have HY7 := Lib.hid (he2.trans hal)
      obtain ⟨p7, hp⟩ : ∃ p, p = w5.heap.size := ⟨_, rfl⟩
      clear hou he2 hal
      go_upto_region 5 with fail
      rw [← hp] at HB7 ⊢
      clear hp
      generalize w5.alloc (actCs g.1.1 g.1.2.1 g.1.2.2.1 g.1.2.2.2.1 g.1.2.2.2.2 (.slice A7 g.2.length c79)) = w6 at *
      have HZ6 := Lib.hid (HY5.out.trans HY7.out)
      obtain ⟨c0, c1, c2, c3, c4, c5⟩ := (HB1.out.ext HZ6.out).at_
      have HRA := Lib.hid (rAct_any k n a b t (.slice Au ks.length cu) ks w6 (HU1.out.ext HZ6.out))
      obtain ⟨AS, hAS⟩ : ∃ AS, actS ((k, n, a, b, t), ks) = AS := ⟨_, rfl⟩
      have HASL := Lib.hid (show AS.length ≤ 5000 from by rw [← hAS]; exact actS_short _)
      rw [hAS] at HRA
      have HAS := Lib.hid hAS
      clear hAS
      go_wp2_with fail
      refine HRA.out.mono ?_
      rintro e w7 ⟨rfl, he7⟩
      have HX7 := Lib.hid (HZ6.out.trans he7)
      have HE7 := Lib.hid he7
      clear he7 c0 c1 c2 c3 c4 c5
      have HA7 := Lib.hid (lAct_any AS w7 (by have := HASL.out; omega) (HT1.out.ext HX7.out).m (HT1.out.ext HX7.out).t)
      obtain ⟨o3, ho3⟩ : ∃ o, La.actL (wordsL AS) = o := ⟨_, rfl⟩
      have HK3 := Lib.hid (show (o3.getD zAct).2.length ≤ 256 from by rw [← ho3]; exact actL_keeps)
      rw [ho3] at HA7
      have HO3 := Lib.hid ho3
      obtain ⟨s3, hs3⟩ : ∃ s, o3.isSome = s := ⟨_, rfl⟩
      rw [hs3] at HA7
      have HS3 := Lib.hid hs3
      obtain ⟨g3, hg3⟩ : ∃ g, o3.getD zAct = g := ⟨_, rfl⟩
      rw [hg3] at HA7 HK3
      have HG3 := Lib.hid hg3
      clear ho3 hs3 hg3
      go_wp2_with fail
      refine HA7.out.mono ?_
      rintro e w8 ⟨_, u2, rfl, rfl, hou, he2⟩
      obtain ⟨A9, c99, rfl⟩ := hou.re.form
      have HB9 := Lib.hid (Bx6.new w8 24 (.int .i64 g3.1.1) (.int .i64 g3.1.2.1) (.int .i64 g3.1.2.2.1) (.int .i64 g3.1.2.2.2.1) (.int .i64 g3.1.2.2.2.2) (.slice A9 g3.2.length c99))
      have hal := (Ext.refl w8).alloc (actCs g3.1.1 g3.1.2.1 g3.1.2.2.1 g3.1.2.2.2.1 g3.1.2.2.2.2 (.slice A9 g3.2.length c99))
      have HU9 := Lib.hid (RE.ext hou.re hal)
      have HY9 := Lib.hid (he2.trans hal)
      obtain ⟨p9, hp⟩ : ∃ p, p = w8.heap.size := ⟨_, rfl⟩
      clear hou he2 hal
      go_upto_region 6 with fail
      rw [← hp] at HB9 ⊢
      clear hp
      generalize w8.alloc (actCs g3.1.1 g3.1.2.1 g3.1.2.2.1 g3.1.2.2.2.1 g3.1.2.2.2.2 (.slice A9 g3.2.length c99)) = w9 at *
      have HX9 := Lib.hid (HX7.out.trans HY9.out)
      have HL9 := Lib.hid (lives29_any w9 (HT1.out.ext HX9.out))
      go_wp2_with fail
      refine HL9.out.mono ?_
      rintro e w10 ⟨rfl, he10⟩
      have HX10 := Lib.hid (HX9.out.trans he10)
      have HV := Lib.hid (show Ext w6 w10 from (HE7.out.trans HY9.out).trans he10)
      have HB10 := Lib.hid (HB9.out.ext he10)
      have HU10 := Lib.hid (RE.ext HU9.out he10)
      obtain ⟨c0, c1, c2, c3, c4, c5⟩ := (HB5.out.ext (HY7.out.trans HV.out)).at_
      obtain ⟨d0, d1, d2, d3, d4, d5⟩ := (HB7.out.ext HV.out).at_
      have HSA := Lib.hid (sameAct_any g g (.slice A5 g.2.length c59) (.slice A7 g.2.length c79) w10 (RE.ext HU5.out (HY7.out.trans HV.out)) (RE.ext HU7.out HV.out) (by have := HK1.out; omega) (by have := HK1.out; omega) true (by simp))
      have bs : (s1 != s1) = false := by cases s1 <;> rfl
      clear he10
      go_wp2_with fail
      refine HSA.out.mono ?_
      rintro e w11 ⟨rfl, he11⟩
      have HX11 := Lib.hid (HX10.out.trans he11)
      have HB11 := Lib.hid (HB10.out.ext he11)
      have HU11 := Lib.hid (RE.ext HU10.out he11)
      clear he11 c0 c1 c2 c3 c4 c5 d0 d1 d2 d3 d4 d5 bs
      obtain ⟨c0, c1, c2, c3, c4, c5⟩ := (HB1.out.ext HX11.out).at_
      have HMY := Lib.hid (actMay_any k n a b t (.slice Au ks.length cu) ks w11 (HU1.out.ext HX11.out))
      have HOK := Lib.hid (show (actOk ((k, n, a, b, t), ks) = false → s3 = false) ∧ (actOk ((k, n, a, b, t), ks) = true → s3 = true ∧ g3.1.1 = k) from by
        refine ⟨fun h => ?_, fun h => ?_⟩
        · have h1 := HAS.out
          rw [actS_nil h] at h1
          have h2 := HO3.out
          rw [← h1] at h2
          have h3 : wordsL [] = [] := live_w0
          rw [h3, actL_0] at h2
          rw [← HS3.out, ← h2]
          rfl
        · obtain ⟨x, h1, h2⟩ := act_back h
          rw [HAS.out, HO3.out] at h1
          have h3 := HS3.out
          have h4 := HG3.out
          rw [h1] at h3 h4
          exact ⟨h3.symm, by rw [← h4]; exact h2⟩)
      generalize actOk ((k, n, a, b, t), ks) = ok at *
      go_wp2_with fail
      refine HMY.out.mono ?_
      rintro e w12 ⟨rfl, he12⟩
      have HX12 := Lib.hid (HX11.out.trans he12)
      have HB12 := Lib.hid (HB11.out.ext he12)
      have HU12 := Lib.hid (RE.ext HU11.out he12)
      clear he12 c0 c1 c2 c3 c4 c5
      cases ok with
      | false =>
        obtain rfl : s3 = false := HOK.out.1 rfl
        go_wp2
        go_ret
        exact ⟨rfl, HX1.out.trans HX12.out⟩
      | true =>
        obtain ⟨rfl, hgk⟩ := HOK.out.2 rfl
        have HGK := Lib.hid hgk
        clear hgk
        obtain ⟨c0, c1, c2, c3, c4, c5⟩ := (HB1.out.ext HX12.out).at_
        have HRA2 := Lib.hid (rAct_any k n a b t (.slice Au ks.length cu) ks w12 (HU1.out.ext HX12.out))
        rw [HAS.out] at HRA2
        go_wp2_with fail
        refine HRA2.out.mono ?_
        rintro e w13 ⟨rfl, he13⟩
        have HE13 := Lib.hid he13
        have HW2 := Lib.hid (rwords_any AS w13 (by have := HASL.out; omega))
        clear he13 c0 c1 c2 c3 c4 c5
        go_wp2_with fail
        refine HW2.out.mono ?_
        rintro e w14 ⟨u4, rfl, hou4, he4⟩
        obtain ⟨Av, cv, rfl⟩ := hou4.re.form
        have HR2 := Lib.hid (rAct29_any Av cv (wordsL AS) w14 hou4.re (by have h1 := HASL.out; have h2 := words_len AS; omega) (fun x hx => by have h1 := HASL.out; have h2 := words_word AS x hx; omega))
        rw [HO3.out, HS3.out, HG3.out] at HR2
        have HE14 := Lib.hid (HE13.out.trans he4)
        clear hou4 he4
        go_wp2_with fail
        refine HR2.out.mono ?_
        rintro e w15 ⟨_, u2, rfl, rfl, hou, he2⟩
        have he2 := HE14.out.trans he2
        obtain ⟨A11, c119, rfl⟩ := hou.re.form
        have HBz := Lib.hid (Bx6.new w15 24 (.int .i64 g3.1.1) (.int .i64 g3.1.2.1) (.int .i64 g3.1.2.2.1) (.int .i64 g3.1.2.2.2.1) (.int .i64 g3.1.2.2.2.2) (.slice A11 g3.2.length c119))
        have hal := (Ext.refl w15).alloc (actCs g3.1.1 g3.1.2.1 g3.1.2.2.1 g3.1.2.2.2.1 g3.1.2.2.2.2 (.slice A11 g3.2.length c119))
        have HUz := Lib.hid (RE.ext hou.re hal)
        have HYz := Lib.hid (he2.trans hal)
        obtain ⟨p11, hp⟩ : ∃ p, p = w15.heap.size := ⟨_, rfl⟩
        clear hou he2 hal
        go_upto_region 11 with fail
        rw [← hp] at HBz ⊢
        clear hp
        generalize w15.alloc (actCs g3.1.1 g3.1.2.1 g3.1.2.2.1 g3.1.2.2.2.1 g3.1.2.2.2.2 (.slice A11 g3.2.length c119)) = w16 at *
        have HX16 := Lib.hid (HX12.out.trans HYz.out)
        have HB16 := Lib.hid (HB12.out.ext HYz.out)
        have HU16 := Lib.hid (RE.ext HU12.out HYz.out)
        obtain ⟨c0, c1, c2, c3, c4, c5⟩ := HB16.out.at_
        obtain ⟨d0, d1, d2, d3, d4, d5⟩ := HBz.out.at_
        have HSB := Lib.hid (sameAct_any g3 g3 (.slice A9 g3.2.length c99) (.slice A11 g3.2.length c119) w16 HU16.out HUz.out (by have := HK3.out; omega) (by have := HK3.out; omega) true (by simp))
        go_wp2_with fail
        refine HSB.out.mono ?_
        rintro e w17 ⟨rfl, he17⟩
        have HX17 := Lib.hid (HX1.out.trans (HX16.out.trans he17))
        have k0 : w17.cell? ⟨r, 0, none⟩ = some (.int .i64 k) := (HB1.out.ext (HX16.out.trans he17)).b.cell 0
        have d0 : w17.cell? ⟨p9, 0, none⟩ = some (.int .i64 k) := by
          have h := (HB16.out.ext he17).b.cell 0
          rw [← HGK.out]
          exact h
        clear he17 c0 c1 c2 c3 c4 c5 d1 d2 d3 d4 d5
        go_wp2
        go_ret
        exact ⟨rfl, HX17.out⟩
end Go.Proofs.YtpmgmiiidfconaaGreatDoor
namespace Go.Proofs.YtpmgmiiidfconaaGreatDoor
open Go.RowKit Go.Ox Go.Ox.Gr Go.Ox.Sc Go.Ox.La Go.ChangeShapes Go.WideShapes
set_option linter.unusedVariables false
set_option linter.unusedSimpArgs false
section
variable {H : Type} {enc : TypeId × Value → H} {W : World} {base : Nat} {sp : Nat → Bool} {held : Bool} {v u : Value} {d : DataW H} {p : List MemPlace} {r : Reach} {b0 N : Nat}
theorem ints_eV29 {R : TypeId → Value → Prop} : ∀ (rows : List (List Value)), (∀ x ∈ rows, rowT R [.int .i64] x) → ∃ l : List Int, rows.length = l.length ∧ rows.flatten = eV l
  | [], _ => ⟨[], rfl, rfl⟩
  | r :: rows, h => by
    obtain ⟨l, h1, h2⟩ := ints_eV29 rows fun x hx => h x (List.mem_cons_of_mem _ hx)
    obtain ⟨n, cs, rfl, _, hr⟩ := rowT_int (h r (List.mem_cons_self ..))
    obtain rfl := rowT_nil hr
    exact ⟨n :: l, by simp [h1], by rw [List.flatten_cons, h2]; rfl⟩
set_option maxRecDepth 100000 in
theorem ints_of_was29 (h : Was enc Tryz.prog W base sp held N 22 u) : ∃ l : List Int, RE W u l := by
  obtain ⟨rows, hr, -, hx⟩ := Was.rows (n := 8) (ks := [.int .i64]) Tryz.underlying22 (by kernel_rfl) (by kernel_rfl) (by decide) h
  obtain ⟨l, h1, h2⟩ := ints_eV29 rows hx
  rw [h1, h2] at hr
  exact ⟨l, RE.mk hr⟩
set_option maxRecDepth 100000 in
theorem actArg29 (hv : Value.okWide Tryz.prog W r b0 24 v) (h : DataW.Trod enc Tryz.prog W base sp held 24 v d p) :
    ∃ x : Value × Sc.Act, v = actAg x.2.1.1 x.2.1.2.1 x.2.1.2.2.1 x.2.1.2.2.2.1 x.2.1.2.2.2.2 x.1 ∧ RE W x.1 x.2.2 := by
  obtain ⟨cs, N, rfl, hr⟩ := struct_of_trodT (n := 8) (ks := [.int .i64, .int .i64, .int .i64, .int .i64, .int .i64, .cell 22]) (by kernel_rfl) Tryz.underlying24 hv h
  obtain ⟨k, cs, rfl, _, hr⟩ := rowT_int hr
  obtain ⟨n, cs, rfl, _, hr⟩ := rowT_int hr
  obtain ⟨a, cs, rfl, _, hr⟩ := rowT_int hr
  obtain ⟨b, cs, rfl, _, hr⟩ := rowT_int hr
  obtain ⟨t, cs, rfl, _, hr⟩ := rowT_int hr
  obtain ⟨u, cs, rfl, hu, hr⟩ := rowT_cell hr
  obtain rfl := rowT_nil hr
  obtain ⟨ks, hk⟩ := ints_of_was29 hu
  exact ⟨(u, (k, n, a, b, t), ks), rfl, hk⟩
end
/-- an array of words, as a row lists it -/
def wordsData (L : List (List UInt8)) : DataW Unit := .agg (L.map fun s => .lit (.string s))
/-- a table of words that the row lists stands in the variable's block -/
theorem glT_of {l : List (String × DataW Unit)} {W : World} {name : String} {g n : Nat} {t e : TypeId} {L : List (List UInt8)}
    (hl : (l.filter fun x => x.1 == name) = [(name, wordsData L)]) (hg : Tryz.prog.globalNamed name = some g) (hty : (Tryz.prog.globals[g]?).map (·.type) = some t)
    (ht : Tryz.prog.underlying t = some (.array n e)) (he : Tryz.prog.underlying e = some .string) (hce : Tryz.prog.cellsOf e = 1) (hL : laidMet Tryz.prog l W) : GlT g L W := by
  have h1 := hL.filter (fun x => x.1 == name)
  rw [hl] at h1
  obtain ⟨ps, ⟨g', t', cs, fuel, p, q, hg', ht', hv, hd, _, _⟩, _, _⟩ := h1
  obtain rfl := Option.some.inj (hg.symm.trans hg')
  obtain rfl := Option.some.inj (hty.symm.trans ht')
  obtain ⟨xs, m, _, ex, _, hlen, hel⟩ := DataW.trod_array ht hd
  have e3 : xs.map (·.1) = L.map fun s => (DataW.lit (.string s) : DataW Unit) := (DataW.agg.inj (Prod.mk.inj ex).1).symm
  have hxl : xs.length = L.length := by simpa using congrArg List.length e3
  intro i hi
  have hE := hel i (by omega)
  rw [hce, Nat.mul_one, List.getElem?_eq_getElem (by omega)] at hE
  obtain ⟨s, e1, e2, _⟩ := DataW.trod_string he hE
  have e4 : (xs.map (·.1))[i]? = (L.map fun s => (DataW.lit (.string s) : DataW Unit))[i]? := by rw [e3]
  rw [List.getElem?_map, List.getElem?_map, List.getElem?_eq_getElem (by omega : i < xs.length), List.getElem?_eq_getElem hi, e2] at e4
  have hs : s.data.toList = L[i] := by simpa using e4
  rw [World.var?_cell hg hv i]
  have h0 : ((cs.toList.drop i).take 1)[0]? = some (Value.string s) := by rw [e1]; rfl
  have h5 : cs.toList[i]? = some (Value.string s) := by simpa using h0
  rw [show strV L[i] = Value.string s from by rw [← hs]]
  simpa using h5
theorem gPow29 : Tryz.prog.globalNamed "internal/strconv.uint64pow10" = some 3 := by kernel_rfl
theorem gPowT29 : (Tryz.prog.globals[3]?).map (·.type) = some 181 := by kernel_rfl
theorem gOps29 : Tryz.prog.globalNamed "oxbow/lang.ops" = some 0 := by kernel_rfl
theorem gOpsT29 : (Tryz.prog.globals[0]?).map (·.type) = some 98 := by kernel_rfl
theorem gFns29 : Tryz.prog.globalNamed "oxbow/lang.fns" = some 1 := by kernel_rfl
theorem gFnsT29 : (Tryz.prog.globals[1]?).map (·.type) = some 100 := by kernel_rfl
/-- what the row lists and the world's shape give what the parser reads -/
theorem ptb29 {l : List (String × DataW Unit)} {W : World}
    (hl1 : ((l.filter fun x => x.2.handleName?.isNone).filter fun x => x.1 == "internal/strconv.uint64pow10") = [("internal/strconv.uint64pow10", Lib.tabData .u64 Lib.pow10Tab)])
    (hl2 : ((l.filter fun x => x.2.handleName?.isNone).filter fun x => x.1 == "oxbow/lang.ops") = [("oxbow/lang.ops", wordsData opsL)])
    (hl3 : ((l.filter fun x => x.2.handleName?.isNone).filter fun x => x.1 == "oxbow/lang.fns") = [("oxbow/lang.fns", wordsData fnsL)])
    (hL : laidMetH Tryz.prog l W) (hsh : W.ShapedOpen Tryz.prog) : Ptb W := by
  have h0 := (laidMetH_iff.1 hL).1
  have h1 := h0.filter (fun x => x.1 == "internal/strconv.uint64pow10")
  rw [hl1] at h1
  exact ⟨Lib.tabIs_of_head (rest := []) gPow29 gPowT29 Tryz.underlying181 Tryz.underlying162 (by kernel_rfl) (by kernel_rfl) h1,
    glT_of hl2 gOps29 gOpsT29 Tryz.underlying98 Tryz.underlying9 (by kernel_rfl) h0,
    glT_of hl3 gFns29 gFnsT29 Tryz.underlying100 Tryz.underlying9 (by kernel_rfl) h0,
    cell_of_shapedOpen_int (zero := #[.int .i64 0]) (t := 3) hsh (of_decide_eq_true (by kernel_rfl)) (by kernel_rfl) rfl (by kernel_rfl) (by kernel_rfl) Tryz.underlying3⟩
end Go.Proofs.YtpmgmiiidfconaaGreatDoor
