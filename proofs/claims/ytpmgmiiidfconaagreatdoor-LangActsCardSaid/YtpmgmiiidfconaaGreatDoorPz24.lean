/-
  LaNode, packed: what the claim needs of them.
-/
import Derived.Test.YtpmgmiiidfconaaGreatDoorPz23
import Derived.Deep.DeepCutAuto
set_option linter.unusedVariables false
set_option linter.unusedSimpArgs false
namespace Go.Ox.La
open Go Go.Lib Go.Ox
/-- a table of words in block g -/
def GlT (g : Nat) (L : List W) (w : World) : Prop := ∀ (i : Nat) (h : i < L.length), w.cell? ⟨g, i, none⟩ = some (strV L[i])
theorem GlT.ext {g : Nat} {L : List W} {w w' : World} (h : GlT g L w) (he : Ext w w') : GlT g L w' := fun i hi => he.cell (h i hi)
theorem GlT.at_ {g : Nat} {L : List W} {w : World} (h : GlT g L w) {i : Nat} (hi : i < L.length) : w.cell? ⟨g, i, none⟩ = some (strV (L.getD i [])) := by
  rw [List.getD_eq_getElem?_getD, List.getElem?_eq_getElem hi]
  exact h i hi
end Go.Ox.La
namespace Go.Proofs.YtpmgmiiidfconaaGreatDoor
open Go.RowKit Go.Ox Go.Ox.Gr Go.Ox.Sc Go.Ox.La Go.Shelf
abbrev OpsT (w : World) : Prop := GlT 0 opsL w
abbrev FnsT (w : World) : Prop := GlT 1 fnsL w
theorem strs_lit (w : World) (cs : Array Value) (n base : Nat) (l : List W) (hb : base ≤ w.heap.size) (hn : l.length = n) (hm : n ≤ 1000000) (h : cs.toList = eV l) : OE 9 base (w.alloc (.cells cs 9)) (.slice (some ⟨w.heap.size, 0, none⟩) n n) l := by
  subst hn
  have h1 : cs.size = l.length * 1 := by
    have h2 := congrArg List.length h
    rw [eV_len, show Enc.k W = 1 from rfl, Array.length_toList] at h2
    exact h2
  have := World.ownsRow_lit (e := 9) (base := base) (size := 1) w cs l.length hb (by unfold maxLen; omega) h1
  rw [h] at this
  exact OE.mk this
theorem word_lit29 (w : World) (a : W) : RE (w.alloc (.cells #[strV a] 9)) (.slice (some ⟨w.heap.size, 0, none⟩) 1 1) [a] := RE.lit w #[strV a] 9 1 [a] rfl (by omega) rfl
theorem nodeW_len (o k f m at_ : Nat) (body : Bool) (ins : List Int) (bd : List Nd) : (nodeW (.mk o ins k f m bd) at_ body).length ≤ 6 + ins.length := by
  have h : nodeW (.mk o ins k f m bd) at_ body = [nameL at_ body, [61], opsL.getD o []] ++
    (if fmly o = 0 then [] else fnsL.getD k [] :: (if takesB k = true then [Lib.decDigits f] else [])) ++
    (if (o : Int) = 11 then [nameL m false] else if countedB o = true then [Lib.decDigits m] else []) ++
    ins.map fun i => nameL i.toNat body := rfl
  rw [h, List.length_append, List.length_append, List.length_append, List.length_map]
  have h1 : (if fmly o = 0 then [] else fnsL.getD k [] :: (if takesB k = true then [Lib.decDigits f] else [])).length ≤ 2 := by
    repeat' split
    all_goals simp
  have h2 : (if (o : Int) = 11 then [nameL m false] else if countedB o = true then [Lib.decDigits m] else []).length ≤ 1 := by
    repeat' split
    all_goals simp
  simp only [List.length_cons, List.length_nil]
  omega
attribute [local irreducible] RE OE GlT
set_option maxRecDepth 100000 in
set_option maxHeartbeats 16000000 in
theorem lnode_any (o k f m at_ : Nat) (body : Bool) (u b : Value) (ins : List Int) (bd : List Nd) (w : World) (hu : RE w u ins) (hb : ∃ A c, b = .slice A bd.length c) (h : mayB (.mk o ins k f m bd) body = true)
    (ho : o < 12) (hk : k < 24) (hf : f < 9223372036854775808) (hm : m < 9223372036854775808) (hat : at_ < 9223372036854775808) (hi : ∀ x ∈ ins, 0 ≤ x ∧ x < 9223372036854775808) (hl : ins.length ≤ 1000) (hj : (joinL (nodeW (.mk o ins k f m bd) at_ body)).length ≤ 1000000)
    (ht : Tab w) (h1 : OpsT w) (h2 : FnsT w) :
    Calls Tryz.prog 17 #[ndAg o k f m u b, .int .i64 (at_ : Int), .bool body] w fun e w' => e = .returned (strV (joinL (nodeW (.mk o ins k f m bd) at_ body))) ∧ Ext w w' := by
  obtain ⟨A, c, rfl⟩ := hu.form
  obtain ⟨Ab, cb, rfl⟩ := hb
  have hal := (Ext.refl w).alloc (ndCs o k f m (.slice A ins.length c) (.slice Ab bd.length cb))
  have HX := Lib.hid hal
  have HU := Lib.hid (RE.ext hu hal)
  have HT := Lib.hid (ht.ext hal)
  have HO := Lib.hid (h1.ext hal)
  have HFN := Lib.hid (h2.ext hal)
  have HB := Lib.hid (Bx6.new w 57 (.int .i64 o) (.slice A ins.length c) (.int .i64 k) (.int .i64 f) (.int .i64 m) (.slice Ab bd.length cb))
  obtain ⟨c0, c1, c2, c3, c4, c5⟩ := HB.out.at_
  have HM := Lib.hid (fun w hu => lmay_any o k f m (.slice A ins.length c) (.slice Ab bd.length cb) ins bd at_ body w hu ⟨_, _, rfl⟩ h (by omega))
  have HK := Lib.hid hk
  have HOO := Lib.hid ho
  have HL := Lib.hid hl
  have HII := Lib.hid hi
  have HN := Lib.hid (fun w ht => lname_any at_ body w hat ht)
  have HFA := Lib.hid (fun w => lfamily_any (o : Int) w)
  have HTK := Lib.hid (fun w => ltakes_any (k : Int) w)
  have HIF := Lib.hid (fun w ht => itoa_any f hf w ht)
  have HIM := Lib.hid (fun w ht => itoa_any m hm w ht)
  have HNM := Lib.hid (fun w ht => lname_any m false w hm ht)
  have HCO := Lib.hid (fun w => lcounted_any (o : Int) w)
  have HW := Lib.hid (show nodeW (.mk o ins k f m bd) at_ body = [nameL at_ body, [61], opsL.getD o []] ++
  (if fmly o = 0 then [] else fnsL.getD k [] :: (if takesB k = true then [Lib.decDigits f] else [])) ++
  (if (o : Int) = 11 then [nameL m false] else if countedB o = true then [Lib.decDigits m] else []) ++
  ins.map fun i => nameL i.toNat body from rfl)
  have HJ := Lib.hid (fun (v : Value) (W : World) (hv : RE W v (nodeW (.mk o ins k f m bd) at_ body)) => join_any v (nodeW (.mk o ins k f m bd) at_ body) W hv (by have h9 := nodeW_len o k f m at_ body ins bd; omega) hj)
  generalize nodeW (.mk o ins k f m bd) at_ body = NW at *
  clear hal hu ht h1 h2 h hk ho hf hm hat hi hl hj
  go_enter Tryz.func17, Tryz.ntmps17
  go_wp2_with fail
  refine (HM.out _ HU.out).mono ?_
  rintro e w3 ⟨rfl, he3⟩
  generalize w.heap.size = p at *
  generalize w.alloc (ndCs o k f m (.slice A ins.length c) (.slice Ab bd.length cb)) = w2 at *
  have HX3 := Lib.hid (HX.out.trans he3)
  have HU3 := Lib.hid (RE.ext HU.out he3)
  have HT3 := Lib.hid (HT.out.ext he3)
  have HO3 := Lib.hid (HO.out.ext he3)
  have HF3 := Lib.hid (HFN.out.ext he3)
  have HB3 := Lib.hid (HB.out.ext he3)
  clear c0 c1 c2 c3 c4 c5 he3 HX HU HT HO HFN HB
  obtain ⟨c0, c1, c2, c3, c4, c5⟩ := HB3.out.at_
  have g0 : w3.cell? ⟨0, o, none⟩ = some (strV (opsL.getD o [])) := HO3.out.at_ HOO.out
  have b0 : 0 ≤ (o : Int) := by omega
  have b1 : (o : Int) < 12 := by have := HOO.out; omega
  obtain ⟨ow, how⟩ : ∃ ow, opsL.getD o [] = ow := ⟨_, rfl⟩
  rw [how] at g0 HW
  clear how
  go_wp2
  refine yx ?_
  refine ya ?_
  refine yc2 (strV (nameL at_ body)) (fun w' hR => HN.out w' (HT3.out.ext hR)) ?_
  refine ya ?_
  refine yl1 c0 ?_
  refine ya ?_
  refine yl1 g0 ?_
  refine wpY_call (fun v w => OE 9 w3.heap.size w v [nameL at_ body, [61], ow]) rfl rfl (by first | exact runs0 | exact runs1 rfl) rfl (by first | exact mono_eq | exact (fun _ _ _ h k => Rd.ext h k) | exact (fun _ _ _ h k => RB.ext h k) | exact (fun _ _ _ h k => OB.ext h k) | exact (fun _ _ _ h k => RB.extS h k) | exact (fun _ _ _ h k => Rd.ext h (GrownW.ext k)) | exact (fun _ _ _ h k => RP.ext h k) | exact (fun _ _ _ h k => OP.ext h k) | exact (fun _ _ _ h k => Rd.extV h k) | exact (fun _ _ _ h k => RB.extV h k) | exact (fun _ _ _ h k => E0.ext h k) | exact (fun _ _ _ h k => O0.ext h k) | exact (fun _ _ _ h k => RE.ext h k) | exact (fun _ _ _ h k => RE.extD h k) | exact (fun _ _ _ h _ => h) | exact (fun _ _ _ ⟨n, h1, h2⟩ k => ⟨n, h1, k.st _ _ h2⟩) | exact (fun _ _ _ h k => OE.ext h k) | exact (fun _ _ _ ⟨n, h1, h2, h3⟩ k => ⟨n, h1, h2, h3.ext k⟩)) ?_ ?_
  · intro a w' hR h1 h2 K hK
    have e1 : _ = _ := h1
    have e2 : _ = _ := h2
    have q1 : a.tmps[17]?.getD undef = strV (nameL at_ body) := by rw [← Array.getD_eq_getD_getElem?]; exact e1
    have q2 : a.tmps[21]?.getD undef = strV ow := by rw [← Array.getD_eq_getD_getElem?]; exact e2
    go_simp
    exact hK _ _ ((Ext.refl _).alloc _) (strs_lit w' #[strV (nameL at_ body), strV [61], strV ow] 3 _ _ hR.size rfl (by omega) rfl)
  (refine wpY_assign rfl rfl rfl rfl rfl (by first | exact runs0 | exact runs1 rfl) Ext.refl (by first | exact mono_eq | exact (fun _ _ _ h k => Rd.ext h k) | exact (fun _ _ _ h k => RB.ext h k) | exact (fun _ _ _ h k => OB.ext h k) | exact (fun _ _ _ h k => RB.extS h k) | exact (fun _ _ _ h k => Rd.ext h (GrownW.ext k)) | exact (fun _ _ _ h k => RP.ext h k) | exact (fun _ _ _ h k => OP.ext h k) | exact (fun _ _ _ h k => Rd.extV h k) | exact (fun _ _ _ h k => RB.extV h k) | exact (fun _ _ _ h k => E0.ext h k) | exact (fun _ _ _ h k => O0.ext h k) | exact (fun _ _ _ h k => RE.ext h k) | exact (fun _ _ _ h k => RE.extD h k) | exact (fun _ _ _ h _ => h) | exact (fun _ _ _ ⟨n, h1, h2⟩ k => ⟨n, h1, k.st _ _ h2⟩) | exact (fun _ _ _ h k => OE.ext h k) | exact (fun _ _ _ ⟨n, h1, h2, h3⟩ k => ⟨n, h1, h2, h3.ext k⟩)) ?_)
  refine wpY_done ?_
  intro w4 hx4 hS4
  iterate 7 (rintro _ rfl)
  rintro v22 h22
  rintro v7 h7
  dsimp only [FinV]
  go_simp
  have hx4 : Ext w3 w4 := hx4
  have HX4 := Lib.hid hx4
  obtain ⟨A7, c7, rfl⟩ := h7.re.form
  have HO7 := Lib.hid h7
  clear c0 c1 c2 c3 c4 c5 hx4 hS4 h22 h7 g0 b0 b1 HM HN HO3
  obtain ⟨base, hbase⟩ : ∃ base, base = w3.heap.size := ⟨_, rfl⟩
  have HBS := Lib.hid hbase
  rw [← hbase] at HO7
  clear hbase
  obtain ⟨WA, hWA⟩ : ∃ WA, ([nameL at_ body, [61], ow] : List W) = WA := ⟨_, rfl⟩
  have HWA := Lib.hid (show WA.length = 3 from by rw [← hWA]; rfl)
  rw [hWA] at HW HO7 ⊢
  clear hWA
  obtain ⟨FW, hFW⟩ : ∃ FW, (if fmly (o : Int) = 0 then [] else fnsL.getD k [] :: (if takesB (k : Int) = true then [Lib.decDigits f] else [])) = FW := ⟨_, rfl⟩
  rw [hFW] at HW
  have HFW := Lib.hid hFW
  have HFL := Lib.hid (show FW.length ≤ 2 from by
    rw [← hFW]
    repeat' split
    all_goals simp)
  clear hFW
  obtain ⟨c0, c1, c2, c3, c4, c5⟩ := (HB3.out.ext HX4.out).at_
  have HFR := Lib.hid (fmly_range (o : Int))
  generalize hr : fmly (o : Int) = r at *
  clear hr
  go_wp2_with fail
  refine (HFA.out _).mono ?_
  rintro e w5 ⟨rfl, rfl⟩
  go_upto_if 26 with fail
  go_cut [7] (fun s7 wx => OE 9 base wx s7 (WA ++ FW) ∧ Ext w3 wx)
  case first =>
    clear HU3 HJ HW HCO HIM HNM HX3
    by_cases hF : r = 0
    · have h0 : FW = [] := by rw [← HFW.out, if_pos hF]
      subst hF
      subst h0
      go_wp2
      go_meet
      exact ⟨by rw [List.append_nil]; exact HO7.out, HX4.out⟩
    · have hFW1 := HFW.out
      rw [if_neg hF] at hFW1
      have HFW1 := Lib.hid hFW1
      have q0 : 0 < r := by have := HFR.out.1; omega
      have g1 := (HF3.out.ext HX4.out).at_ (i := k) HK.out
      have b0 : 0 ≤ (k : Int) := by omega
      have b1 : (k : Int) < 24 := by have := HK.out; omega
      obtain ⟨fw, hfw⟩ : ∃ fw, fnsL.getD k [] = fw := ⟨_, rfl⟩
      rw [hfw] at g1 HFW1
      have HLI := Lib.hid (word_lit29 w4 fw)
      have hxl : Ext w4 (w4.alloc (.cells #[strV fw] 9)) := (Ext.refl _).alloc _
      have HO8 := Lib.hid (HO7.out.ext hxl)
      have HX8 := Lib.hid (HX4.out.trans hxl)
      clear hfw hFW1 hF hxl
      go_upto_region 6 with (at_builtin; refine wpList_appE rfl elemW _ _ _ rfl base _ _ WA [fw] rfl HO8.out rfl HLI.out (by have := HWA.out; simp only [List.length_singleton]; omega) (by have := HWA.out; simp only [List.length_singleton]; unfold maxLen; omega) (by have h1 := HX8.out.size; have h2 := HBS.out; omega) ?_; intro v9 w9 ho9 hb9 hg9)
      have HX9 := Lib.hid (show Ext w3 w9 from Below.trans HX8.out (by have := hb9; rw [HBS.out] at this; exact this))
      have HO9 := Lib.hid ho9
      obtain ⟨A9, c9, rfl⟩ := ho9.re.form
      have HT9 := Lib.hid (HT3.out.ext HX9.out)
      clear ho9 hb9 hg9 c0 c1 c2 c3 c4 c5 g1
      obtain ⟨c0, c1, c2, c3, c4, c5⟩ := (HB3.out.ext HX9.out).at_
      have h9l : (WA ++ [fw]).length = 4 := by have := HWA.out; simp [this]
      rw [h9l] at HO9 ⊢
      have HW9 := Lib.hid h9l
      clear h9l
      generalize hW9 : WA ++ [fw] = W9 at *
      have HWE := Lib.hid hW9
      clear hW9
      go_wp2_with fail
      refine (HTK.out _).mono ?_
      rintro e w10 ⟨rfl, he10⟩
      have HO10 := Lib.hid (HO9.out.ext he10)
      have HX10 := Lib.hid (HX9.out.trans he10)
      have HT10 := Lib.hid (HT9.out.ext he10)
      obtain ⟨y0, y1, y2, y3, y4, y5⟩ := (HB3.out.ext HX10.out).at_
      clear he10 c0 c1 c2 c3 c4 c5
      generalize takesB (k : Int) = tk at *
      cases tk with
      | false =>
        have h0 : FW = [fw] := by rw [← HFW1.out]; rfl
        go_wp2
        go_meet
        exact ⟨by rw [h0, HWE.out]; exact HO10.out, HX10.out⟩
      | true =>
        have h0 : FW = [fw, Lib.decDigits f] := by rw [← HFW1.out]; rfl
        have H0 := Lib.hid h0
        clear h0
        go_wp2_with fail
        refine (HIF.out _ HT10.out).mono ?_
        rintro e w11 ⟨rfl, he11⟩
        have hxl : Ext w11 (w11.alloc (.cells #[strV (Lib.decDigits f)] 9)) := (Ext.refl _).alloc _
        have HLI2 := Lib.hid (word_lit29 w11 (Lib.decDigits f))
        have HO11 := Lib.hid ((HO10.out.ext he11).ext hxl)
        have HX11 := Lib.hid ((HX10.out.trans he11).trans hxl)
        clear he11 hxl y0 y1 y2 y3 y4 y5
        generalize Lib.decDigits f = df at *
        go_wp2_with (at_builtin; refine wpList_appE rfl elemW _ _ _ rfl base _ _ W9 [df] rfl HO11.out rfl HLI2.out (by have := HW9.out; rw [this]; simp only [List.length_singleton]; omega) (by have := HW9.out; rw [this]; simp only [List.length_singleton]; unfold maxLen; omega) (by have h1 := HX11.out.size; have h2 := HBS.out; omega) ?_; intro v12 w12 ho12 hb12 hg12)
        go_meet
        exact ⟨by rw [H0.out, show WA ++ [fw, df] = WA ++ [fw] ++ [df] from by simp, HWE.out]; exact ho12, Below.trans HX11.out (by have := hb12; rw [HBS.out] at this; exact this)⟩
  case rest =>
    obtain ⟨ho8, hx8⟩ := hcut
    rename World => wc
    obtain ⟨A8, c8, rfl⟩ := ho8.re.form
    have HX8 := Lib.hid hx8
    have h8l : (WA ++ FW).length ≤ 5 := by have h1 := HWA.out; have h2 := HFL.out; simp; omega
    generalize hW8 : WA ++ FW = W8 at *
    have HO8 := Lib.hid ho8
    have H8L := Lib.hid h8l
    have HT8 := Lib.hid (HT3.out.ext hx8)
    clear ho8 hx8 h8l hW8 c0 c1 c2 c3 c4 c5 HFA HTK HIF HF3 HFW HFL HX4 HO7
    obtain ⟨NM, hNM⟩ : ∃ NM, (if (o : Int) = 11 then [nameL m false] else if countedB (o : Int) = true then [Lib.decDigits m] else []) = NM := ⟨_, rfl⟩
    rw [hNM] at HW
    have HNM2 := Lib.hid hNM
    have HNL := Lib.hid (show NM.length ≤ 1 from by
      rw [← hNM]
      repeat' split
      all_goals simp)
    clear hNM
    obtain ⟨c0, c1, c2, c3, c4, c5⟩ := (HB3.out.ext HX8.out).at_
    generalize hcb : countedB (o : Int) = cb at *
    clear hcb
    have hcase : ((o : Int) = 11 ∧ NM = [nameL m false]) ∨ (¬ (o : Int) = 11 ∧ cb = false ∧ NM = []) ∨ (¬ (o : Int) = 11 ∧ cb = true ∧ NM = [Lib.decDigits m]) := by
      rw [← HNM2.out]
      by_cases o11 : (o : Int) = 11
      · exact .inl ⟨o11, if_pos o11⟩
      · rw [if_neg o11]
        cases cb
        · exact .inr (.inl ⟨o11, rfl, rfl⟩)
        · exact .inr (.inr ⟨o11, rfl, rfl⟩)
    have HNLL := Lib.hid (show (W8 ++ NM).length ≤ 6 from by have h1 := H8L.out; have h2 := HNL.out; simp; omega)
    rcases hcase with ⟨o11, h0⟩ | ⟨o11, rfl, h0⟩ | ⟨o11, rfl, h0⟩
    focus
      have H0 := Lib.hid h0
      clear h0 HNM2
      go_wp2_with fail
      refine (HNM.out _ HT8.out).mono ?_
      rintro e w11 ⟨rfl, he11⟩
      have hxl : Ext w11 (w11.alloc (.cells #[strV (nameL m false)] 9)) := (Ext.refl _).alloc _
      have HLI2 := Lib.hid (word_lit29 w11 (nameL m false))
      have HO11 := Lib.hid ((HO8.out.ext he11).ext hxl)
      have HX11 := Lib.hid ((HX8.out.trans he11).trans hxl)
      clear he11 hxl c0 c1 c2 c3 c4 c5
      generalize nameL m false = df at *
      go_upto_region 12 with (at_builtin; refine wpList_appE rfl elemW _ _ _ rfl base _ _ W8 [df] rfl HO11.out rfl HLI2.out (by have := H8L.out; simp only [List.length_singleton]; omega) (by have := H8L.out; simp only [List.length_singleton]; unfold maxLen; omega) (by have h1 := HX11.out.size; have h2 := HBS.out; omega) ?_; intro v12 w12 ho12 hb12 hg12)
      have HX12 := Lib.hid (show Ext w3 w12 from Below.trans HX11.out (by have := hb12; rw [HBS.out] at this; exact this))
      obtain ⟨A12, c12, rfl⟩ := ho12.re.form
      have HO12 := Lib.hid ho12
      have HNE := Lib.hid (show W8 ++ [df] = W8 ++ NM from by rw [H0.out])
      obtain ⟨N, hN⟩ : ∃ N, (W8 ++ [df]).length = N := ⟨_, rfl⟩
      rw [hN] at HO12 ⊢
      rw [HNE.out] at HO12
      clear ho12 hb12 hg12 HX11 HO11 HLI2 H0 hN HNE
    rotate_left
    focus
      have b11 : ((o : Int) == 11) = false := by simpa using o11
      have H0 := Lib.hid h0
      clear h0 HNM2
      go_wp2_with fail
      refine (HCO.out _).mono ?_
      rintro e w10 ⟨rfl, rfl⟩
      go_upto_region 12 with fail
      have HX12 := HX8
      have HO12 := HO8
      have HNE := Lib.hid (show W8 = W8 ++ NM from by rw [H0.out, List.append_nil])
      obtain ⟨N, hN⟩ : ∃ N, W8.length = N := ⟨_, rfl⟩
      rw [hN] at HO12 ⊢
      generalize A8 = A12 at *
      generalize c8 = c12 at *
      generalize wc = w12 at *
      replace HO12 := Lib.hid (show OE 9 base w12 (.slice A12 N c12) (W8 ++ NM) from by rw [← HNE.out]; exact HO12.out)
      clear H0 hN HNE c0 c1 c2 c3 c4 c5
    rotate_left
    focus
      have b11 : ((o : Int) == 11) = false := by simpa using o11
      have H0 := Lib.hid h0
      clear h0 HNM2
      go_wp2_with fail
      refine (HCO.out _).mono ?_
      rintro e w10 ⟨rfl, rfl⟩
      go_wp2_with fail
      refine (HIM.out _ HT8.out).mono ?_
      rintro e w11 ⟨rfl, he11⟩
      have hxl : Ext w11 (w11.alloc (.cells #[strV (Lib.decDigits m)] 9)) := (Ext.refl _).alloc _
      have HLI2 := Lib.hid (word_lit29 w11 (Lib.decDigits m))
      have HO11 := Lib.hid ((HO8.out.ext he11).ext hxl)
      have HX11 := Lib.hid ((HX8.out.trans he11).trans hxl)
      clear he11 hxl c0 c1 c2 c3 c4 c5
      generalize Lib.decDigits m = df at *
      go_upto_region 12 with (at_builtin; refine wpList_appE rfl elemW _ _ _ rfl base _ _ W8 [df] rfl HO11.out rfl HLI2.out (by have := H8L.out; simp only [List.length_singleton]; omega) (by have := H8L.out; simp only [List.length_singleton]; unfold maxLen; omega) (by have h1 := HX11.out.size; have h2 := HBS.out; omega) ?_; intro v12 w12 ho12 hb12 hg12)
      have HX12 := Lib.hid (show Ext w3 w12 from Below.trans HX11.out (by have := hb12; rw [HBS.out] at this; exact this))
      obtain ⟨A12, c12, rfl⟩ := ho12.re.form
      have HO12 := Lib.hid ho12
      have HNE := Lib.hid (show W8 ++ [df] = W8 ++ NM from by rw [H0.out])
      obtain ⟨N, hN⟩ : ∃ N, (W8 ++ [df]).length = N := ⟨_, rfl⟩
      rw [hN] at HO12 ⊢
      rw [HNE.out] at HO12
      clear ho12 hb12 hg12 HX11 HO11 HLI2 H0 hN HNE
    rotate_left
    all_goals
      clear HO8 HX8 HT8 HIM HNM HCO
      generalize hWN : W8 ++ NM = WN at *
      clear hWN
      have HU12 := Lib.hid (RE.ext HU3.out HX12.out)
      have HT12 := Lib.hid (HT3.out.ext HX12.out)
      obtain ⟨c0, c1, c2, c3, c4, c5⟩ := (HB3.out.ext HX12.out).at_
      have hsz : base ≤ w12.heap.size := by have h1 := HX12.out.size; have h2 := HBS.out; omega
      have HSZ := Lib.hid hsz
      clear hsz
      go_wp2
      clear c0 c1 c2 c3 c4 c5
      go_loopw [7, 69] (fun lv iv wr => ∃ j : Nat, j ≤ ins.length ∧ iv = .int .i64 (j : Int) ∧ OE 9 base wr lv (WN ++ (ins.take j).map fun i => nameL i.toNat body) ∧ Ext w3 wr) (fun _ iv _ => ins.length - (intOf iv).toNat)
      case atStart => exact ⟨0, Nat.zero_le _, rfl, by simpa using HO12.out, HX12.out⟩
      case round =>
        obtain ⟨j, hj, rfl, ho, hext⟩ := hrel
        rename World => wr
        obtain ⟨P, hP⟩ : ∃ P, WN ++ (ins.take j).map (fun i => nameL i.toNat body) = P := ⟨_, rfl⟩
        rw [hP] at ho
        have HPL := Lib.hid (show P.length ≤ 1006 from by rw [← hP]; have h1 := HNLL.out; have h2 := HL.out; simp; omega)
        have HPE := Lib.hid hP
        obtain ⟨AP, cP, rfl⟩ := ho.re.form
        have HO := Lib.hid ho
        have HE := Lib.hid hext
        have hj9 : j ≤ 1000 := by have := HL.out; omega
        clear ho hext hP
        by_cases hlt : j < ins.length
        · have q1 : (j : Int) < (ins.length : Int) := by omega
          have q1n := hlt
          have q0 : 0 ≤ (j : Int) := by omega
          obtain ⟨bI, oI, rfl, z0⟩ := ri1 (RE.ext HU3.out HE.out) hlt
          have hxi := HII.out _ (List.getElem_mem hlt)
          have HS := Lib.hid (show WN ++ (ins.take (j + 1)).map (fun i => nameL i.toNat body) = P ++ [nameL (ins[j]'hlt).toNat body] from by
            rw [← HPE.out, List.take_succ_eq_append_getElem hlt, List.map_append, ← List.append_assoc]
            rfl)
          generalize ins[j]'hlt = x at *
          obtain ⟨y, hy⟩ : ∃ y : Nat, x = (y : Int) := ⟨x.toNat, by have := hxi.1; omega⟩
          subst hy
          rw [show ((y : Int)).toNat = y from rfl] at HS
          have HLT := Lib.hid hlt
          have HC := Lib.hid (lname_any y body wr (by have := hxi.2; omega) (HT3.out.ext HE.out))
          clear hlt hj hxi
          generalize nameL y body = nm at *
          go_wp2_with fail
          refine HC.out.mono ?_
          rintro e w15 ⟨rfl, he15⟩
          have hxl : Ext w15 (w15.alloc (.cells #[strV nm] 9)) := (Ext.refl _).alloc _
          have HLI := Lib.hid (word_lit29 w15 nm)
          have HO2 := Lib.hid ((HO.out.ext he15).ext hxl)
          have HX2 := Lib.hid ((HE.out.trans he15).trans hxl)
          clear he15 hxl
          go_wp2_with (at_builtin; refine wpList_appE rfl elemW _ _ _ rfl base _ _ P [nm] rfl HO2.out rfl HLI.out (by have := HPL.out; simp only [List.length_singleton]; omega) (by have := HPL.out; simp only [List.length_singleton]; unfold maxLen; omega) (by have h1 := HX2.out.size; have h2 := HBS.out; omega) ?_; intro v16 w16 ho16 hb16 hg16)
          exact ⟨⟨j + 1, HLT.out, by go_num, by rw [HS.out]; exact ho16, Below.trans HX2.out (by have := hb16; rw [HBS.out] at this; exact this)⟩, by have := HLT.out; simp [intOf]; omega⟩
        · have q1 : ¬ (j : Int) < (ins.length : Int) := by omega
          obtain rfl : j = ins.length := by omega
          have HRE := Lib.hid (show RE wr (.slice AP P.length cP) NW from by
            rw [HW.out]
            have h1 := HPE.out
            rw [List.take_length] at h1
            rw [h1]
            exact HO.out.re)
          clear hlt hj
          go_wp2_with fail
          refine (HJ.out _ _ HRE.out).mono ?_
          rintro e w17 ⟨rfl, he17⟩
          have HF := Lib.hid (HE.out.trans he17)
          clear he17
          go_wp2
          go_ret
          exact ⟨rfl, HX3.out.trans HF.out⟩
end Go.Proofs.YtpmgmiiidfconaaGreatDoor
