/-
  ScrEq, packed: what the claim needs of them.
-/
import Derived.Test.YtpmpjjhchkoboaaGreatDoorPc21
import Derived.Test.YtpmpjjhchkoboaaGreatDoorPc16
open Go.Lib (hid)
set_option linter.unusedSimpArgs false
set_option linter.unusedVariables false
set_option maxRecDepth 100000
namespace Go.Proofs.YtpmpjjhchkoboaaGreatDoor
open Go.RowKit Go.Ox Go.Ox.Gr Go.Ox.Sc
attribute [local irreducible] RE OE EpR InsR ActsR RP
set_option maxHeartbeats 4000000 in
theorem equalB_any (g : Nat) (lb : Array Value) (eg : ∀ args w, (callFunc g args).run Tryz.prog w = .ok (.enter g args) w) (v u : Value) (l r : List (Bag)) (w : World) (hv : EpR w v l) (hu : EpR w u r) (hl : l.length ≤ 1000000000)
 (hcl : ∀ a b x y W, x ∈ l → y ∈ r → Ext w W → RP W a x → RP W b y → Calls Tryz.prog g (#[a, b] ++ lb) W (EqP (Rec.srt x) (Rec.srt y) W)) :
 Calls Tryz.prog 26 #[v, u, .func (.func g) #[] lb] w (EqP (l.map Rec.srt) (r.map Rec.srt) w) := by
 obtain ⟨A, c, rfl⟩ := hv.form
 obtain ⟨B, e, rfl⟩ := hu.form
 by_cases hlen : l.length = r.length
 case neg =>
  have hb : ((l.length : Int) != (r.length : Int)) = true := by simp; omega
  have HN := hid (show l.map Rec.srt ≠ r.map Rec.srt from fun q => hlen (by have := congrArg List.length q; simpa using this))
  have HNO := hid (fun w' e h1 h2 => @EqP.no _ (l.map Rec.srt) (r.map Rec.srt) w w' e h1 h2)
  clear hv hu hlen hcl eg
  go_enter Tryz.func26, Tryz.ntmps26
  go_wp2
  go_ret
  exact HNO.out _ _ HN.out rfl (Ext.refl _)
 have hb : ((l.length : Int) != (r.length : Int)) = false := by simp; omega
 have HV := hid hv
 have HU := hid hu
 have HLEN := hid hlen
 have HCL := hid hcl
 have HNO := hid (fun w' e h0 h1 h2 => @EqP.no _ (l.map Rec.srt) (r.map Rec.srt) w w' e h0 h1 h2)
 clear hv hu hlen hcl
 go_enter Tryz.func26, Tryz.ntmps26
 go_wp2
 clear hb
 go_loopw [17] (fun iv wr => ∃ k : Nat, k ≤ l.length ∧ iv = .int .i64 (k : Int) ∧ (l.take k).map Rec.srt = (r.take k).map Rec.srt ∧ Ext w wr) (fun iv _ => l.length - (intOf iv).toNat)
 case atStart => exact ⟨0, Nat.zero_le _, rfl, rfl, Ext.refl _⟩
 case round =>
  obtain ⟨k, hk, rfl, hp, hext⟩ := hrel
  have HP := hid hp
  have HE := hid hext
  clear hp
  by_cases hlt : k < l.length
  · have q1 : (k : Int) < (l.length : Int) := by omega
    have q0 : 0 ≤ (k : Int) := by omega
    have q1n : k < l.length := hlt
    have q2n : k < r.length := by have := HLEN.out; omega
    have q2 : (k : Int) < (r.length : Int) := by omega
    have HLT := hid hlt
    obtain ⟨bA, oA, u0, rfl, z0, hu0⟩ := (EpR.ext HV.out hext).at_ hlt
    obtain ⟨bB, oB, u1, rfl, g0, hu1⟩ := (EpR.ext HU.out hext).at_ q2n
    have HNE := hid (show Rec.srt l[k] ≠ Rec.srt r[k] → l.map Rec.srt ≠ r.map Rec.srt from fun h q => h (by
     have h1 : (l.map Rec.srt)[k]? = (r.map Rec.srt)[k]? := by rw [q]
     rw [List.getElem?_map, List.getElem?_map, List.getElem?_eq_getElem hlt, List.getElem?_eq_getElem q2n, Option.map_some, Option.map_some] at h1
     exact Option.some.inj h1))
    have HEQ := hid (show Rec.srt l[k] = Rec.srt r[k] → (l.take (k + 1)).map Rec.srt = (r.take (k + 1)).map Rec.srt from fun h => by rw [List.take_succ_eq_append_getElem hlt, List.take_succ_eq_append_getElem q2n, List.map_append, List.map_append, HP.out]; exact congrArg (fun z => (r.take k).map Rec.srt ++ [z]) h)
    have HC := hid (fun W he h1 h2 => HCL.out u0 u1 _ _ W (List.getElem_mem hlt) (List.getElem_mem q2n) he h1 h2)
    generalize l[k] = x at *
    generalize r[k] = y at *
    have HU0 := hid hu0
    have HU1 := hid hu1
    obtain ⟨Au, cu, rfl⟩ := hu0.form
    obtain ⟨Bu, du, rfl⟩ := hu1.form
    clear hu0 hu1 hlt hk hext
    have HX2 := HE
    go_wp2_with fail
    refine (HC.out _ HE.out HU0.out HU1.out).mono ?_
    rintro e w4 ⟨b, rfl, hbb, he4⟩
    have HX4 := hid (HX2.out.trans he4)
    cases b with
    | false =>
     have HN := hid (HNE.out (fun e => by have := hbb.2 e; cases this))
     clear hbb he4
     go_wp2
     go_ret
     exact HNO.out _ _ HN.out rfl HX4.out
    | true =>
     have HTK := hid (HEQ.out (hbb.1 rfl))
     clear hbb he4
     go_wp2
     exact ⟨⟨k + 1, HLT.out, by go_num, HTK.out, HX4.out⟩, by have := HLT.out; simp [intOf]; omega⟩
  · obtain rfl : k = l.length := by omega
    have q1 : ¬ (l.length : Int) < (l.length : Int) := by omega
    have HQ := hid (show l.map Rec.srt = r.map Rec.srt by have := HP.out; rw [List.take_length, HLEN.out, List.take_length] at this; exact this)
    clear hext hk hlt
    go_wp2
    go_ret
    first | exact EqP.yes HQ.out rfl HE.out | exact EqP.yes (by have := HQ.out; simpa using this) rfl HE.out
set_option maxHeartbeats 4000000 in
theorem equalE_any (g : Nat) (lb : Array Value) (eg : ∀ args w, (callFunc g args).run Tryz.prog w = .ok (.enter g args) w) (v u : Value) (l r : List (List Bag)) (w : World) (hv : InsR w v l) (hu : InsR w u r) (hl : l.length ≤ 1000000000)
 (hcl : ∀ a b x y W, x ∈ l → y ∈ r → Ext w W → EpR W a x → EpR W b y → Calls Tryz.prog g (#[a, b] ++ lb) W (EqP (srtE x) (srtE y) W)) :
 Calls Tryz.prog 29 #[v, u, .func (.func g) #[] lb] w (EqP (l.map srtE) (r.map srtE) w) := by
 obtain ⟨A, c, rfl⟩ := hv.form
 obtain ⟨B, e, rfl⟩ := hu.form
 by_cases hlen : l.length = r.length
 case neg =>
  have hb : ((l.length : Int) != (r.length : Int)) = true := by simp; omega
  have HN := hid (show l.map srtE ≠ r.map srtE from fun q => hlen (by have := congrArg List.length q; simpa using this))
  have HNO := hid (fun w' e h1 h2 => @EqP.no _ (l.map srtE) (r.map srtE) w w' e h1 h2)
  clear hv hu hlen hcl eg
  go_enter Tryz.func29, Tryz.ntmps29
  go_wp2
  go_ret
  exact HNO.out _ _ HN.out rfl (Ext.refl _)
 have hb : ((l.length : Int) != (r.length : Int)) = false := by simp; omega
 have HV := hid hv
 have HU := hid hu
 have HLEN := hid hlen
 have HCL := hid hcl
 have HNO := hid (fun w' e h0 h1 h2 => @EqP.no _ (l.map srtE) (r.map srtE) w w' e h0 h1 h2)
 clear hv hu hlen hcl
 go_enter Tryz.func29, Tryz.ntmps29
 go_wp2
 clear hb
 go_loopw [17] (fun iv wr => ∃ k : Nat, k ≤ l.length ∧ iv = .int .i64 (k : Int) ∧ (l.take k).map srtE = (r.take k).map srtE ∧ Ext w wr) (fun iv _ => l.length - (intOf iv).toNat)
 case atStart => exact ⟨0, Nat.zero_le _, rfl, rfl, Ext.refl _⟩
 case round =>
  obtain ⟨k, hk, rfl, hp, hext⟩ := hrel
  have HP := hid hp
  have HE := hid hext
  clear hp
  by_cases hlt : k < l.length
  · have q1 : (k : Int) < (l.length : Int) := by omega
    have q0 : 0 ≤ (k : Int) := by omega
    have q1n : k < l.length := hlt
    have q2n : k < r.length := by have := HLEN.out; omega
    have q2 : (k : Int) < (r.length : Int) := by omega
    have HLT := hid hlt
    obtain ⟨bA, oA, u0, rfl, z0, hu0⟩ := (InsR.ext HV.out hext).at_ hlt
    obtain ⟨bB, oB, u1, rfl, g0, hu1⟩ := (InsR.ext HU.out hext).at_ q2n
    have HNE := hid (show srtE l[k] ≠ srtE r[k] → l.map srtE ≠ r.map srtE from fun h q => h (by
     have h1 : (l.map srtE)[k]? = (r.map srtE)[k]? := by rw [q]
     rw [List.getElem?_map, List.getElem?_map, List.getElem?_eq_getElem hlt, List.getElem?_eq_getElem q2n, Option.map_some, Option.map_some] at h1
     exact Option.some.inj h1))
    have HEQ := hid (show srtE l[k] = srtE r[k] → (l.take (k + 1)).map srtE = (r.take (k + 1)).map srtE from fun h => by rw [List.take_succ_eq_append_getElem hlt, List.take_succ_eq_append_getElem q2n, List.map_append, List.map_append, HP.out]; exact congrArg (fun z => (r.take k).map srtE ++ [z]) h)
    have HC := hid (fun W he h1 h2 => HCL.out u0 u1 _ _ W (List.getElem_mem hlt) (List.getElem_mem q2n) he h1 h2)
    generalize l[k] = x at *
    generalize r[k] = y at *
    have HU0 := hid hu0
    have HU1 := hid hu1
    obtain ⟨Au, cu, rfl⟩ := hu0.form
    obtain ⟨Bu, du, rfl⟩ := hu1.form
    clear hu0 hu1 hlt hk hext
    have HX2 := HE
    go_wp2_with fail
    refine (HC.out _ HE.out HU0.out HU1.out).mono ?_
    rintro e w4 ⟨b, rfl, hbb, he4⟩
    have HX4 := hid (HX2.out.trans he4)
    cases b with
    | false =>
     have HN := hid (HNE.out (fun e => by have := hbb.2 e; cases this))
     clear hbb he4
     go_wp2
     go_ret
     exact HNO.out _ _ HN.out rfl HX4.out
    | true =>
     have HTK := hid (HEQ.out (hbb.1 rfl))
     clear hbb he4
     go_wp2
     exact ⟨⟨k + 1, HLT.out, by go_num, HTK.out, HX4.out⟩, by have := HLT.out; simp [intOf]; omega⟩
  · obtain rfl : k = l.length := by omega
    have q1 : ¬ (l.length : Int) < (l.length : Int) := by omega
    have HQ := hid (show l.map srtE = r.map srtE by have := HP.out; rw [List.take_length, HLEN.out, List.take_length] at this; exact this)
    clear hext hk hlt
    go_wp2
    go_ret
    first | exact EqP.yes HQ.out rfl HE.out | exact EqP.yes (by have := HQ.out; simpa using this) rfl HE.out
set_option maxHeartbeats 4000000 in
theorem equalA_any (g : Nat) (lb : Array Value) (eg : ∀ args w, (callFunc g args).run Tryz.prog w = .ok (.enter g args) w) (v u : Value) (l r : List (Sc.Act)) (w : World) (hv : ActsR w v l) (hu : ActsR w u r) (hl : l.length ≤ 1000000000)
 (hcl : ∀ a b x y W, x ∈ l → y ∈ r → Ext w W → RE W a x.2 → RE W b y.2 → Calls Tryz.prog g (#[actAg x.1.1 x.1.2.1 x.1.2.2.1 x.1.2.2.2.1 x.1.2.2.2.2 a, actAg y.1.1 y.1.2.1 y.1.2.2.1 y.1.2.2.2.1 y.1.2.2.2.2 b] ++ lb) W (EqP ((fun a : Sc.Act => a) x) ((fun a : Sc.Act => a) y) W)) :
 Calls Tryz.prog 30 #[v, u, .func (.func g) #[] lb] w (EqP (l.map (fun a : Sc.Act => a)) (r.map (fun a : Sc.Act => a)) w) := by
 obtain ⟨A, c, rfl⟩ := hv.form
 obtain ⟨B, e, rfl⟩ := hu.form
 by_cases hlen : l.length = r.length
 case neg =>
  have hb : ((l.length : Int) != (r.length : Int)) = true := by simp; omega
  have HN := hid (show l.map (fun a : Sc.Act => a) ≠ r.map (fun a : Sc.Act => a) from fun q => hlen (by have := congrArg List.length q; simpa using this))
  have HNO := hid (fun w' e h1 h2 => @EqP.no _ (l.map (fun a : Sc.Act => a)) (r.map (fun a : Sc.Act => a)) w w' e h1 h2)
  clear hv hu hlen hcl eg
  go_enter Tryz.func30, Tryz.ntmps30
  go_wp2
  go_ret
  exact HNO.out _ _ HN.out rfl (Ext.refl _)
 have hb : ((l.length : Int) != (r.length : Int)) = false := by simp; omega
 have HV := hid hv
 have HU := hid hu
 have HLEN := hid hlen
 have HCL := hid hcl
 have HNO := hid (fun w' e h0 h1 h2 => @EqP.no _ (l.map (fun a : Sc.Act => a)) (r.map (fun a : Sc.Act => a)) w w' e h0 h1 h2)
 clear hv hu hlen hcl
 go_enter Tryz.func30, Tryz.ntmps30
 go_wp2
 clear hb
 go_loopw [17] (fun iv wr => ∃ k : Nat, k ≤ l.length ∧ iv = .int .i64 (k : Int) ∧ (l.take k).map (fun a : Sc.Act => a) = (r.take k).map (fun a : Sc.Act => a) ∧ Ext w wr) (fun iv _ => l.length - (intOf iv).toNat)
 case atStart => exact ⟨0, Nat.zero_le _, rfl, rfl, Ext.refl _⟩
 case round =>
  obtain ⟨k, hk, rfl, hp, hext⟩ := hrel
  have HP := hid hp
  have HE := hid hext
  clear hp
  by_cases hlt : k < l.length
  · have q1 : (k : Int) < (l.length : Int) := by omega
    have q0 : 0 ≤ (k : Int) := by omega
    have q1n : k < l.length := hlt
    have q2n : k < r.length := by have := HLEN.out; omega
    have q2 : (k : Int) < (r.length : Int) := by omega
    have HLT := hid hlt
    obtain ⟨bA, oA, u0, rfl, z0, z1, z2, z3, z4, z5, hu0⟩ := (ActsR.ext HV.out hext).at_ hlt
    obtain ⟨bB, oB, u1, rfl, g0, g1, g2, g3, g4, g5, hu1⟩ := (ActsR.ext HU.out hext).at_ q2n
    have HNE := hid (show (fun a : Sc.Act => a) l[k] ≠ (fun a : Sc.Act => a) r[k] → l.map (fun a : Sc.Act => a) ≠ r.map (fun a : Sc.Act => a) from fun h q => h (by
     have h1 : (l.map (fun a : Sc.Act => a))[k]? = (r.map (fun a : Sc.Act => a))[k]? := by rw [q]
     rw [List.getElem?_map, List.getElem?_map, List.getElem?_eq_getElem hlt, List.getElem?_eq_getElem q2n, Option.map_some, Option.map_some] at h1
     exact Option.some.inj h1))
    have HEQ := hid (show (fun a : Sc.Act => a) l[k] = (fun a : Sc.Act => a) r[k] → (l.take (k + 1)).map (fun a : Sc.Act => a) = (r.take (k + 1)).map (fun a : Sc.Act => a) from fun h => by rw [List.take_succ_eq_append_getElem hlt, List.take_succ_eq_append_getElem q2n, List.map_append, List.map_append, HP.out]; exact congrArg (fun z => (r.take k).map (fun a : Sc.Act => a) ++ [z]) h)
    have HC := hid (fun W he h1 h2 => HCL.out u0 u1 _ _ W (List.getElem_mem hlt) (List.getElem_mem q2n) he h1 h2)
    generalize l[k] = x at *
    generalize r[k] = y at *
    have HU0 := hid hu0
    have HU1 := hid hu1
    obtain ⟨⟨k1, n1, a1, b1, t1⟩, ks1⟩ := x
    obtain ⟨⟨k2, n2, a2, b2, t2⟩, ks2⟩ := y
    obtain ⟨Au, cu, rfl⟩ := hu0.form
    obtain ⟨Bu, du, rfl⟩ := hu1.form
    dsimp only at z0 z1 z2 z3 z4 z5 g0 g1 g2 g3 g4 g5
    have hxn := (Ext.refl wr).alloc (actCs k1 n1 a1 b1 t1 (.slice Au ks1.length cu))
    have g0 := hxn.cell g0
    have g1 := hxn.cell g1
    have g2 := hxn.cell g2
    have g3 := hxn.cell g3
    have g4 := hxn.cell g4
    have g5 := hxn.cell g5
    have HNB := hid (Bx6.new wr 47 (.int .i64 k1) (.int .i64 n1) (.int .i64 a1) (.int .i64 b1) (.int .i64 t1) (.slice Au ks1.length cu))
    have HX1 := hid (HE.out.trans hxn)
    have HXU := hid (RE.ext HU0.out hxn)
    have HYU := hid (RE.ext HU1.out hxn)
    clear hu0 hu1 hxn hext hlt hk
    go_upto_region 6 with fail
    clear z0 z1 z2 z3 z4 z5
    generalize wr.heap.size = q at *
    generalize wr.alloc (actCs k1 n1 a1 b1 t1 (.slice Au ks1.length cu)) = wn at *
    have hyn := (Ext.refl wn).alloc (actCs k2 n2 a2 b2 t2 (.slice Bu ks2.length du))
    have HMB := hid (Bx6.new wn 47 (.int .i64 k2) (.int .i64 n2) (.int .i64 a2) (.int .i64 b2) (.int .i64 t2) (.slice Bu ks2.length du))
    have HNB2 := hid (HNB.out.ext hyn)
    have HX2 := hid (HX1.out.trans hyn)
    have HXU2 := hid (RE.ext HXU.out hyn)
    have HYU2 := hid (RE.ext HYU.out hyn)
    clear hyn
    go_upto_region 7 with fail
    clear g0 g1 g2 g3 g4 g5
    generalize wn.heap.size = qm at *
    generalize wn.alloc (actCs k2 n2 a2 b2 t2 (.slice Bu ks2.length du)) = wm at *
    obtain ⟨b0, b1, b2, b3, b4, b5⟩ := HNB2.out.at_
    obtain ⟨y0, y1, y2, y3, y4, y5⟩ := HMB.out.at_
    go_wp2_with fail
    refine (HC.out wm HX2.out HXU2.out HYU2.out).mono ?_
    rintro e w4 ⟨b, rfl, hbb, he4⟩
    have HX4 := hid (HX2.out.trans he4)
    cases b with
    | false =>
     have HN := hid (HNE.out (fun e => by have := hbb.2 e; cases this))
     clear hbb he4
     go_wp2
     go_ret
     exact HNO.out _ _ HN.out rfl HX4.out
    | true =>
     have HTK := hid (HEQ.out (hbb.1 rfl))
     clear hbb he4
     go_wp2
     exact ⟨⟨k + 1, HLT.out, by go_num, HTK.out, HX4.out⟩, by have := HLT.out; simp [intOf]; omega⟩
  · obtain rfl : k = l.length := by omega
    have q1 : ¬ (l.length : Int) < (l.length : Int) := by omega
    have HQ := hid (show l.map (fun a : Sc.Act => a) = r.map (fun a : Sc.Act => a) by have := HP.out; rw [List.take_length, HLEN.out, List.take_length] at this; exact this)
    clear hext hk hlt
    go_wp2
    go_ret
    first | exact EqP.yes HQ.out rfl HE.out | exact EqP.yes (by have := HQ.out; simpa using this) rfl HE.out
end Go.Proofs.YtpmpjjhchkoboaaGreatDoor
