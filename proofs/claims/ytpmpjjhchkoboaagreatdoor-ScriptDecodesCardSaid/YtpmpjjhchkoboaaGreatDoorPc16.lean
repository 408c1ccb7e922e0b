/-
  GrSame, packed: what the claim needs of them.
-/
import Derived.BigRegion
import Derived.Test.YtpmpjjhchkoboaaGreatDoorPc15
import Derived.Test.YtpmpjjhchkoboaaGreatDoorPc06
import Derived.Test.YtpmpjjhchkoboaaGreatDoorPc10
open Go.Lib (hid)
set_option linter.unusedSimpArgs false
set_option linter.unusedVariables false
set_option maxRecDepth 100000
namespace Go.Ox.Gr
def Sm : Nat → List Nd → Prop
 | 0, l => l = []
 | k + 1, l => l.length ≤ 40 ∧ ∀ n ∈ l, n.ins.length ≤ 40 ∧ Sm k n.body
theorem Sm.nil : ∀ (k : Nat), Sm k []
 | 0 => rfl
 | k + 1 => ⟨by simp, fun n hn => by simp at hn⟩
theorem Sm.of_deep : ∀ {k : Nat} {l : List Nd}, deepB k l = false → Sm k l
 | 0, _, h => by cases h
 | k + 1, l, h => ⟨(deep_ok h).1, fun n hn => ⟨((deep_ok h).2 n hn).1, by
  rcases ((deep_ok h).2 n hn).2 with q | q
  · rw [q]; exact Sm.nil k
  · exact Sm.of_deep q⟩⟩
theorem Sm.facts {k : Nat} {l : List Nd} (h : Sm k l) : l.length ≤ 40 ∧ ∀ n ∈ l, n.ins.length ≤ 40 ∧ Sm (k - 1) n.body := by
 cases k with
 | zero => cases h; exact ⟨by simp, fun n hn => by simp at hn⟩
 | succ k => exact h
theorem at_ne {α : Type} {l r : List α} {k : Nat} (h1 : k < l.length) (h2 : k < r.length) (h : l[k] ≠ r[k]) : l ≠ r := fun e => by subst e; exact h rfl
end Go.Ox.Gr
namespace Go.Proofs.YtpmpjjhchkoboaaGreatDoor
open Go.RowKit Go.Ox Go.Ox.Gr
attribute [local irreducible] RE NodesR
def SameP (l r : List Nd) (w : World) (e : Ending) (w' : World) : Prop := ∃ b, e = .returned (.bool b) ∧ (b = true ↔ l = r) ∧ Ext w w'
theorem SameP.no {l r : List Nd} {w w' : World} {e : Ending} (h : l ≠ r) (he : e = .returned (.bool false)) (hx : Ext w w') : SameP l r w e w' := ⟨false, he, Iff.intro (fun q => Bool.noConfusion q) (fun q => absurd q h), hx⟩
theorem bx6_two (w : World) (T : TypeId) (a0 a1 a2 a3 a4 a5 b0 b1 b2 b3 b4 b5 : Value) :
 Bx6 ((w.alloc (.cells #[a0, a1, a2, a3, a4, a5] T)).alloc (.cells #[b0, b1, b2, b3, b4, b5] T)).drew w.heap.size T a0 a1 a2 a3 a4 a5 ∧ Bx6 ((w.alloc (.cells #[a0, a1, a2, a3, a4, a5] T)).alloc (.cells #[b0, b1, b2, b3, b4, b5] T)).drew (w.heap.size + 1) T b0 b1 b2 b3 b4 b5 ∧
 Ext w ((w.alloc (.cells #[a0, a1, a2, a3, a4, a5] T)).alloc (.cells #[b0, b1, b2, b3, b4, b5] T)).drew := by
 have h := Bx6.new (w.alloc (.cells #[a0, a1, a2, a3, a4, a5] T)) T b0 b1 b2 b3 b4 b5
 rw [show (w.alloc (.cells #[a0, a1, a2, a3, a4, a5] T)).heap.size = w.heap.size + 1 by simp] at h
 exact ⟨((Bx6.new w T a0 a1 a2 a3 a4 a5).ext ((Ext.refl _).alloc _)).ext (Ext.refl _).drew, h.ext (Ext.refl _).drew, (((Ext.refl w).alloc _).alloc _).drew⟩
set_option maxHeartbeats 16000000 in
theorem rsameN_any : ∀ (K d d' : Nat) (v u : Value) (l r : List Nd) (w : World), K ≤ 4 → Sm K l → NodesR d w v l → NodesR d' w u r →
 Calls Tryz.prog 80 #[v, u] w (SameP l r w) := by
 intro K
 induction K using Nat.strongRecOn with
 | ind K ih =>
  intro d d' v u l r w hK4 hsm hv hu
  obtain ⟨A, c, rfl⟩ := hv.form
  obtain ⟨B, e, rfl⟩ := hu.form
  by_cases hlen : l.length = r.length
  case neg =>
   have hb : ((l.length : Int) != (r.length : Int)) = true := by simp; omega
   have HN := hid (show l ≠ r from fun q => hlen (by rw [q]))
   have HNO := hid (fun w' e h1 h2 => @SameP.no l r w w' e HN.out h1 h2)
   clear hv hu hlen hsm ih
   go_enter Tryz.func80, Tryz.ntmps80
   go_wp2
   go_ret
   exact HNO.out _ _ rfl (Ext.refl _)
  have hb : ((l.length : Int) != (r.length : Int)) = false := by simp; omega
  have HV := hid hv
  have HU := hid hu
  have HLEN := hid hlen
  have HSM := hid hsm.facts
  have HK0 := hid (show l ≠ [] → 0 < K from fun hne => by
   cases K with
   | zero => exact absurd hsm hne
   | succ K => omega)
  have IH := hid (fun (h0 : 0 < K) d d' v u l r w h1 h2 h3 => ih (K - 1) (by omega) d d' v u l r w (by omega) h1 h2 h3)
  have HNO := hid (fun w' e h0 h1 h2 => @SameP.no l r w w' e h0 h1 h2)
  clear hv hu hlen hsm ih
  go_enter Tryz.func80, Tryz.ntmps80
  go_wp2
  clear hb
  go_loopw [5] (fun iv wr => ∃ k : Nat, k ≤ l.length ∧ iv = .int .i64 (k : Int) ∧ l.take k = r.take k ∧ Ext w wr) (fun iv _ => l.length - (intOf iv).toNat)
  case atStart => exact ⟨0, Nat.zero_le _, rfl, rfl, Ext.refl _⟩
  case round =>
   obtain ⟨k, hk, rfl, hp, hext⟩ := hrel
   have HP := hid hp
   have HE := hid hext
   have hk40 : k ≤ 40 := by have := HSM.out.1; omega
   clear hp
   by_cases hlt : k < l.length
   · have q1 : (k : Int) < (l.length : Int) := by omega
     have q0 : 0 ≤ (k : Int) := by omega
     have q1n : k < l.length := hlt
     have q2n : k < r.length := by have := HLEN.out; omega
     have q2 : (k : Int) < (r.length : Int) := by omega
     have HLT := hid hlt
     obtain ⟨bA, oA, xu, xb, rfl, z0, z1, z2, z3, z4, z5, hxu, hxb⟩ := (HV.out.ext hext).at_ hlt
     obtain ⟨bB, oB, yu, yb, rfl, g0, g1, g2, g3, g4, g5, hyu, hyb⟩ := (HU.out.ext hext).at_ q2n
     have HNE := hid (fun h => at_ne hlt q2n h)
     have HEQ := hid (show l[k] = r[k] → l.take (k + 1) = r.take (k + 1) from fun h => by rw [List.take_succ_eq_append_getElem hlt, List.take_succ_eq_append_getElem q2n, HP.out]; exact congrArg (fun z => r.take k ++ [z]) h)
     have HSX := hid (HSM.out.2 l[k] (List.getElem_mem hlt))
     generalize l[k] = x at *
     generalize r[k] = y at *
     obtain ⟨xop, xins, xkind, xfa, xa, xbody⟩ := x
     obtain ⟨yop, yins, ykind, yfa, ya, ybody⟩ := y
     simp only [Nd.op, Nd.kind, Nd.fa, Nd.a, Nd.ins, Nd.body] at z0 z2 z3 z4 hxu hxb g0 g2 g3 g4 hyu hyb
     replace HSX := hid (show xins.length ≤ 40 ∧ Sm (K - 1) xbody from HSX.out)
     have HKP := hid (HK0.out (fun e => by rw [e] at hlt; simp at hlt))
     have HXU := hid hxu
     have HXB := hid hxb
     have HYU := hid hyu
     have HYB := hid hyb
     obtain ⟨Ax, cx, rfl⟩ := hxu.form
     obtain ⟨Bx, dx, rfl⟩ := hxb.form
     obtain ⟨Ay, cy, rfl⟩ := hyu.form
     obtain ⟨By, dy, rfl⟩ := hyb.form
     have hA := World.block_lt_of_cell? wr _ z0
     have hB := World.block_lt_of_cell? wr _ g0
     simp only at hA hB
     have hA1 : ¬ bA = wr.heap.size := by omega
     have hB1 : ¬ bB = wr.heap.size := by omega
     have hA2 : ¬ bA = wr.heap.size + 1 := by omega
     have hB2 : ¬ bB = wr.heap.size + 1 := by omega
     clear hxu hxb hyu hyb hlt hk hext
     go_upto_region 6 with fail
     go_cut [6, 7] (fun s6 s7 wx => ∃ n6 n7, s6 = .pointer (some ⟨n6, 0, none⟩) ∧ s7 = .pointer (some ⟨n7, 0, none⟩) ∧ Bx6 wx n6 112 (.int .i64 xop) (.slice Ax xins.length cx) (.int .i64 xkind) (.int .i64 xfa) (.int .i64 xa) (.slice Bx xbody.length dx) ∧ Bx6 wx n7 112 (.int .i64 yop) (.slice Ay yins.length cy) (.int .i64 ykind) (.int .i64 yfa) (.int .i64 ya) (.slice By ybody.length dy) ∧ Ext wr wx)
     case first =>
      have HI1 := hid (bx6_two wr 112 (.int .i64 xop) (.slice Ax xins.length cx) (.int .i64 xkind) (.int .i64 xfa) (.int .i64 xa) (.slice Bx xbody.length dx) (.int .i64 yop) (.slice Ay yins.length cy) (.int .i64 ykind) (.int .i64 yfa) (.int .i64 ya) (.slice By ybody.length dy))
      have HI2 := hid (bx6_two wr 112 (.int .i64 yop) (.slice Ay yins.length cy) (.int .i64 ykind) (.int .i64 yfa) (.int .i64 ya) (.slice By ybody.length dy) (.int .i64 xop) (.slice Ax xins.length cx) (.int .i64 xkind) (.int .i64 xfa) (.int .i64 xa) (.slice Bx xbody.length dx))
      clear HP HE HNE HEQ HSX HXU HXB HYU HYB HV HU HLEN HSM IH HNO HK0 HKP
      go_region
      all_goals go_wp2
      all_goals go_meet
      · exact ⟨_, _, rfl, rfl, HI1.out.1, HI1.out.2.1, HI1.out.2.2⟩
      · exact ⟨_, _, rfl, rfl, HI2.out.2.1, HI2.out.1, HI2.out.2.2⟩
     case rest =>
     obtain ⟨n6, n7, rfl, rfl, hb6, hb7, hx3⟩ := hcut
     rename World => w3
     have HB6 := hid hb6
     have HB7 := hid hb7
     have HX3 := hid hx3
     clear hb6 hb7 hx3 z0 z1 z2 z3 z4 z5 g0 g1 g2 g3 g4 g5 hA hB hA1 hB1 hA2 hB2
     obtain ⟨x0, x1, x2, x3, x4, x5⟩ := HB6.out.at_
     obtain ⟨y0, y1, y2, y3, y4, y5⟩ := HB7.out.at_
     have HX := hid (HE.out.trans HX3.out)
     by_cases hop : xop = yop
     case neg =>
      have HN := hid (HNE.out (fun e => by injection e with a1 a2 a3 a4 a5 a6; exact hop a1))
      have hb : (xop != yop) = true := by simpa using hop
      clear hop
      go_wp2_with fail
      go_ret
      exact HNO.out _ _ HN.out rfl HX.out
     subst hop
     by_cases hki : xkind = ykind
     case neg =>
      have HN := hid (HNE.out (fun e => by injection e with a1 a2 a3 a4 a5 a6; exact hki a3))
      have hb : (xkind == ykind) = false := by simpa using hki
      go_wp2_with fail
      go_ret
      exact HNO.out _ _ HN.out rfl HX.out
     subst hki
     by_cases hfa : xfa = yfa
     case neg =>
      have HN := hid (HNE.out (fun e => by injection e with a1 a2 a3 a4 a5 a6; exact hfa a4))
      have hb : (xfa == yfa) = false := by simpa using hfa
      go_wp2_with fail
      go_ret
      exact HNO.out _ _ HN.out rfl HX.out
     subst hfa
     by_cases haa : xa = ya
     case neg =>
      have HN := hid (HNE.out (fun e => by injection e with a1 a2 a3 a4 a5 a6; exact haa a5))
      have hb : (xa != ya) = true := by simpa using haa
      clear haa
      go_wp2_with fail
      go_ret
      exact HNO.out _ _ HN.out rfl HX.out
     subst haa
     by_cases hil : xins.length = yins.length
     case neg =>
      have HN := hid (HNE.out (fun e => by injection e with a1 a2 a3 a4 a5 a6; exact hil (by rw [a2])))
      have hb : ((xins.length : Int) != (yins.length : Int)) = true := by simp; omega
      clear hil
      go_wp2_with fail
      go_ret
      exact HNO.out _ _ HN.out rfl HX.out
     have hb : ((xins.length : Int) != (yins.length : Int)) = false := by simp; omega
     have HIL := hid hil
     clear hil
     go_wp2_with fail
     refine (IH.out HKP.out _ _ _ _ xbody ybody w3 HSX.out.2 (HXB.out.ext HX3.out) (HYB.out.ext HX3.out)).mono ?_
     rintro e w4 ⟨b, rfl, hbb, he4⟩
     have HX4 := hid (HX.out.trans he4)
     have HB64 := hid (HB6.out.ext he4)
     have HB74 := hid (HB7.out.ext he4)
     have HXU4 := hid (RE.ext HXU.out (HX3.out.trans he4))
     have HYU4 := hid (RE.ext HYU.out (HX3.out.trans he4))
     cases b with
     | false =>
      have HN := hid (HNE.out (fun e => by injection e with a1 a2 a3 a4 a5 a6; exact absurd (hbb.2 a6) (by decide)))
      clear hbb he4
      go_wp2_with fail
      go_ret
      exact HNO.out _ _ HN.out rfl HX4.out
     | true =>
      have HBD := hid (hbb.1 rfl)
      clear hbb he4 hb x0 x1 x2 x3 x4 x5 y0 y1 y2 y3 y4 y5
      go_wp2
      go_loopw [8] (fun jv wq => ∃ j : Nat, j ≤ xins.length ∧ jv = .int .i64 (j : Int) ∧ xins.take j = yins.take j ∧ Ext w4 wq) (fun jv _ => xins.length - (intOf jv).toNat)
      case atStart => exact ⟨0, Nat.zero_le _, rfl, rfl, Ext.refl _⟩
      case round =>
       obtain ⟨j, hj, rfl, hjt, hjx⟩ := hrel
       have HJT := hid hjt
       have HJX := hid hjx
       have hj40 : j ≤ 40 := by have := HSX.out.1; omega
       obtain ⟨x0, x1, x2, x3, x4, x5⟩ := (HB64.out.ext hjx).at_
       obtain ⟨y0, y1, y2, y3, y4, y5⟩ := (HB74.out.ext hjx).at_
       clear hjt
       by_cases hjl : j < xins.length
       · have r1 : (j : Int) < (xins.length : Int) := by omega
         have r2 : (j : Int) < (yins.length : Int) := by have := HIL.out; omega
         have r0 : 0 ≤ (j : Int) := by omega
         have r1n : j < xins.length := hjl
         have r2n : j < yins.length := by have := HIL.out; omega
         have HJL := hid hjl
         obtain ⟨bI, oI, rfl, i0⟩ := ri1 (RE.ext HXU4.out hjx) hjl
         obtain ⟨bJ, oJ, rfl, i1⟩ := ri1 (RE.ext HYU4.out hjx) r2n
         have HNJ := hid (fun h => at_ne hjl r2n h)
         have HTJ := hid (show xins[j] = yins[j] → xins.take (j + 1) = yins.take (j + 1) from fun h => by rw [List.take_succ_eq_append_getElem hjl, List.take_succ_eq_append_getElem r2n, HJT.out]; exact congrArg (fun z => yins.take j ++ [z]) h)
         generalize xins[j] = xi at *
         generalize yins[j] = yi at *
         clear hjx hjl hj
         by_cases hij : xi = yi
         · have HTN := hid (HTJ.out hij)
           subst hij
           go_upto_region 12 with fail
           go_region
           go_wp2
           exact ⟨⟨j + 1, HJL.out, by go_num, HTN.out, HJX.out.drew⟩, by have := HJL.out; simp [intOf]; omega⟩
         · have HN := hid (HNE.out (fun e => by injection e with a1 a2 a3 a4 a5 a6; exact HNJ.out hij a2))
           have hij2 : (xi != yi) = true := by simpa using hij
           go_upto_region 12 with fail
           go_region
           go_wp2
           go_ret
           exact HNO.out _ _ HN.out rfl (HX4.out.trans HJX.out).drew
       · obtain rfl : j = xins.length := by omega
         have r1 : ¬ (xins.length : Int) < (xins.length : Int) := by omega
         have HIN := hid (show xins = yins by have := HJT.out; rw [List.take_length, HIL.out, List.take_length] at this; exact this)
         have HTK := hid (HEQ.out (by rw [HIN.out, HBD.out]))
         have HXF := hid (HX4.out.trans HJX.out)
         clear hjx hj hjl
         go_wp2
         exact ⟨⟨k + 1, HLT.out, by go_num, HTK.out, HXF.out⟩, by have := HLT.out; simp [intOf]; omega⟩
   · obtain rfl : k = l.length := by omega
     have q1 : ¬ (l.length : Int) < (l.length : Int) := by omega
     have HQ := hid (show l = r by have := HP.out; rw [List.take_length, HLEN.out, List.take_length] at this; exact this)
     clear hext hk hlt
     go_wp2
     go_ret
     exact ⟨true, rfl, ⟨fun _ => HQ.out, fun _ => rfl⟩, HE.out⟩
end Go.Proofs.YtpmpjjhchkoboaaGreatDoor
namespace Go.Proofs.YtpmpjjhchkoboaaGreatDoor
open Go.RowKit Go.Ox Go.Ox.Gr
attribute [local irreducible] RE NodesR
def EqP {α : Type} (x y : α) (w : World) (e : Ending) (w' : World) : Prop := ∃ b, e = .returned (.bool b) ∧ (b = true ↔ x = y) ∧ Ext w w'
theorem EqP.no {α : Type} {x y : α} {w w' : World} {e : Ending} (h : x ≠ y) (he : e = .returned (.bool false)) (hx : Ext w w') : EqP x y w e w' := ⟨false, he, Iff.intro (fun q => Bool.noConfusion q) (fun q => absurd q h), hx⟩
theorem EqP.yes {α : Type} {x y : α} {w w' : World} {e : Ending} (h : x = y) (he : e = .returned (.bool true)) (hx : Ext w w') : EqP x y w e w' := ⟨true, he, Iff.intro (fun _ => h) (fun _ => rfl), hx⟩
set_option maxHeartbeats 4000000 in
theorem rSameG_any (K d d' : Nat) (v u : Value) (l r : List Nd) (a b : Int) (w : World) (hK : K ≤ 4) (hs : Sm K l) (hv : NodesR d w v l) (hu : NodesR d' w u r) :
 Calls Tryz.prog 32 #[gAg v a, gAg u b] w (EqP ((l, a) : G) (r, b) w) := by
 obtain ⟨A, c, rfl⟩ := hv.form
 obtain ⟨B, e, rfl⟩ := hu.form
 have HX0 := hid (((Ext.refl w).alloc (gCs (.slice A l.length c) a)).alloc (gCs (.slice B r.length e) b))
 have HB0 := hid ((Blk.new w 26 #[.slice A l.length c, .int .i64 a]).ext ((Ext.refl _).alloc (gCs (.slice B r.length e) b)))
 have HC0 := hid (Blk.new (w.alloc (gCs (.slice A l.length c) a)) 26 #[.slice B r.length e, .int .i64 b])
 have HS := hid (fun w' hv hu => rsameN_any K d d' (.slice A l.length c) (.slice B r.length e) l r w' hK hs hv hu)
 have HV := hid (hv.ext HX0.out)
 have HU := hid (hu.ext HX0.out)
 have HNO := hid (fun w' e h1 h2 h3 => @EqP.no G (l, a) (r, b) w w' e h1 h2 h3)
 have HYES := hid (fun w' e h1 h2 h3 => @EqP.yes G (l, a) (r, b) w w' e h1 h2 h3)
 clear hv hu hs
 go_enter Tryz.func32, Tryz.ntmps32
 go_upto_region 1 with fail
 obtain ⟨p, hp⟩ : ∃ p, p = w.heap.size := ⟨_, rfl⟩
 have hq : (w.alloc (gCs (.slice A l.length c) a)).heap.size = p + 1 := by rw [hp]; simp
 rw [hq] at HC0
 rw [← hp] at HB0 ⊢
 have HP := hid hp
 clear hp hq
 generalize (w.alloc (gCs (.slice A l.length c) a)).alloc (gCs (.slice B r.length e) b) = w0 at *
 have c0 : w0.cell? ⟨p, 0, none⟩ = some (.slice A l.length c) := HB0.out.cell 0
 have c1 : w0.cell? ⟨p, 1, none⟩ = some (.int .i64 a) := HB0.out.cell 1
 have d0 : w0.cell? ⟨p + 1, 0, none⟩ = some (.slice B r.length e) := HC0.out.cell 0
 have d1 : w0.cell? ⟨p + 1, 1, none⟩ = some (.int .i64 b) := HC0.out.cell 1
 by_cases hab : a = b
 case neg =>
  have HN := hid (show ((l, a) : G) ≠ (r, b) from fun q => hab (congrArg Prod.snd q))
  have hb : (a == b) = false := by simpa using hab
  go_wp2
  go_ret
  exact HNO.out _ _ HN.out rfl HX0.out
 have HAB := hid hab
 have hb : (a == b) = true := by simpa using hab
 clear hab
 go_wp2_with fail
 refine (HS.out _ HV.out HU.out).mono ?_
 rintro e w1 ⟨bb, rfl, hbb, he1⟩
 have HX1 := hid (HX0.out.trans he1)
 cases bb with
 | false =>
  have HN := hid (show ((l, a) : G) ≠ (r, b) from fun q => by have := hbb.2 (congrArg Prod.fst q); cases this)
  clear hbb
  go_wp2
  go_ret
  exact HNO.out _ _ HN.out rfl HX1.out
 | true =>
  have HN := hid (show ((l, a) : G) = (r, b) from by rw [hbb.1 rfl, HAB.out])
  clear hbb
  go_wp2
  go_ret
  exact HYES.out _ _ HN.out rfl HX1.out
set_option maxHeartbeats 4000000 in
theorem equalI_any (v u : Value) (l r : List Int) (w : World) (hv : RE w v l) (hu : RE w u r) (hl : l.length ≤ 1000000) :
 Calls Tryz.prog 79 #[v, u] w (EqP l r w) := by
 obtain ⟨A, c, rfl⟩ := hv.form
 obtain ⟨B, e, rfl⟩ := hu.form
 by_cases hlen : l.length = r.length
 case neg =>
  have hb : ((l.length : Int) != (r.length : Int)) = true := by simp; omega
  have HN := hid (show l ≠ r from fun q => hlen (by rw [q]))
  have HNO := hid (fun w' e h1 h2 => @EqP.no _ l r w w' e h1 h2)
  clear hv hu hlen
  go_enter Tryz.func79, Tryz.ntmps79
  go_wp2
  go_ret
  exact HNO.out _ _ HN.out rfl (Ext.refl _)
 have hb : ((l.length : Int) != (r.length : Int)) = false := by simp; omega
 have HV := hid hv
 have HU := hid hu
 have HLEN := hid hlen
 have HL := hid hl
 have HNO := hid (fun w' e h0 h1 h2 => @EqP.no _ l r w w' e h0 h1 h2)
 clear hv hu hlen hl
 go_enter Tryz.func79, Tryz.ntmps79
 go_wp2
 clear hb
 go_loopw [13] (fun iv wr => ∃ k : Nat, k ≤ l.length ∧ iv = .int .i64 (k : Int) ∧ l.take k = r.take k ∧ Ext w wr) (fun iv _ => l.length - (intOf iv).toNat)
 case atStart => exact ⟨0, Nat.zero_le _, rfl, rfl, Ext.refl _⟩
 case round =>
  obtain ⟨j, hj, rfl, hjt, hjx⟩ := hrel
  have HJT := hid hjt
  have HJX := hid hjx
  have hj40 : j ≤ 1000000 := by have := HL.out; omega
  clear hjt
  by_cases hjl : j < l.length
  · have r1 : (j : Int) < (l.length : Int) := by omega
    have r2 : (j : Int) < (r.length : Int) := by have := HLEN.out; omega
    have r0 : 0 ≤ (j : Int) := by omega
    have r1n : j < l.length := hjl
    have r2n : j < r.length := by have := HLEN.out; omega
    have HJL := hid hjl
    obtain ⟨bI, oI, rfl, i0⟩ := ri1 (RE.ext HV.out hjx) hjl
    obtain ⟨bJ, oJ, rfl, i1⟩ := ri1 (RE.ext HU.out hjx) r2n
    have HNJ := hid (fun h => at_ne hjl r2n h)
    have HTJ := hid (show l[j] = r[j] → l.take (j + 1) = r.take (j + 1) from fun h => by rw [List.take_succ_eq_append_getElem hjl, List.take_succ_eq_append_getElem r2n, HJT.out]; exact congrArg (fun z => r.take j ++ [z]) h)
    generalize l[j] = xi at *
    generalize r[j] = yi at *
    clear hjx hjl hj
    by_cases hij : xi = yi
    · have HTN := hid (HTJ.out hij)
      subst hij
      go_upto_region 6 with fail
      go_region
      go_wp2
      exact ⟨⟨j + 1, HJL.out, by go_num, HTN.out, HJX.out.drew⟩, by have := HJL.out; simp [intOf]; omega⟩
    · have HN := hid (HNJ.out hij)
      have hij2 : (xi != yi) = true := by simpa using hij
      go_upto_region 6 with fail
      go_region
      go_wp2
      go_ret
      exact HNO.out _ _ HN.out rfl HJX.out.drew
  · obtain rfl : j = l.length := by omega
    have r1 : ¬ (l.length : Int) < (l.length : Int) := by omega
    have HIN := hid (show l = r by have := HJT.out; rw [List.take_length, HLEN.out, List.take_length] at this; exact this)
    clear hjx hj hjl
    go_wp2
    go_ret
    exact EqP.yes HIN.out rfl HJX.out
set_option maxHeartbeats 8000000 in
theorem same_of (K : Nat) (IH : ∀ d d' v u (l r : List Nd) w, Sm K l → NodesR d w v l → NodesR d' w u r → Calls Tryz.prog 76 #[v, u, .func (.func 77) #[] #[]] w (EqP l r w))
 (xop xkind xfa xa yop ykind yfa ya : Int) (xins yins : List Int) (xbody ybody : List Nd) (d d' : Nat) (xu xb yu yb : Value) (w : World) (hl : xins.length ≤ 1000) (hs : Sm K xbody)
 (hxu : RE w xu xins) (hxb : NodesR d w xb xbody) (hyu : RE w yu yins) (hyb : NodesR d' w yb ybody) :
 Calls Tryz.prog 77 #[ndAg xop xkind xfa xa xu xb, ndAg yop ykind yfa ya yu yb] w (EqP (Nd.mk xop xins xkind xfa xa xbody) (.mk yop yins ykind yfa ya ybody) w) := by
 have HX0 := hid (((Ext.refl w).alloc (ndCs xop xkind xfa xa xu xb)).alloc (ndCs yop ykind yfa ya yu yb))
 have HB0 := hid ((Bx6.new w 112 (.int .i64 xop) xu (.int .i64 xkind) (.int .i64 xfa) (.int .i64 xa) xb).ext ((Ext.refl _).alloc (ndCs yop ykind yfa ya yu yb)))
 have HC0 := hid (Bx6.new (w.alloc (ndCs xop xkind xfa xa xu xb)) 112 (.int .i64 yop) yu (.int .i64 ykind) (.int .i64 yfa) (.int .i64 ya) yb)
 have HEI := hid (fun w' h1 h2 => equalI_any xu yu xins yins w' h1 h2 (by omega))
 have HEN := hid (fun w' h1 h2 => IH d d' xb yb xbody ybody w' hs h1 h2)
 have HXU := hid (RE.ext hxu HX0.out)
 have HYU := hid (RE.ext hyu HX0.out)
 have HXB := hid (hxb.ext HX0.out)
 have HYB := hid (hyb.ext HX0.out)
 have HNO := hid (fun w' e h0 h1 h2 => @EqP.no _ (Nd.mk xop xins xkind xfa xa xbody) (.mk yop yins ykind yfa ya ybody) w w' e h0 h1 h2)
 obtain ⟨Ax, cx, rfl⟩ := hxu.form
 obtain ⟨Bx, dx, rfl⟩ := hxb.form
 obtain ⟨Ay, cy, rfl⟩ := hyu.form
 obtain ⟨By, dy, rfl⟩ := hyb.form
 clear hxu hxb hyu hyb IH hs hl
 go_enter Tryz.func77, Tryz.ntmps77
 go_upto_region 1 with fail
 obtain ⟨p, hp⟩ : ∃ p, p = w.heap.size := ⟨_, rfl⟩
 have hq : (w.alloc (ndCs xop xkind xfa xa (.slice Ax xins.length cx) (.slice Bx xbody.length dx))).heap.size = p + 1 := by rw [hp]; simp
 rw [hq] at HC0
 rw [← hp] at HB0 ⊢
 clear hp hq
 generalize (w.alloc (ndCs xop xkind xfa xa (.slice Ax xins.length cx) (.slice Bx xbody.length dx))).alloc (ndCs yop ykind yfa ya (.slice Ay yins.length cy) (.slice By ybody.length dy)) = w0 at *
 obtain ⟨c0, c1, c2, c3, c4, c5⟩ := HB0.out.at_
 obtain ⟨d0, d1, d2, d3, d4, d5⟩ := HC0.out.at_
 by_cases hop : xop = yop
 case neg =>
  have HN := hid (show Nd.mk xop xins xkind xfa xa xbody ≠ .mk yop yins ykind yfa ya ybody from fun e => by injection e with a1 a2 a3 a4 a5 a6; exact hop a1)
  have hb : (xop == yop) = false := by simpa using hop
  clear hop
  go_wp2
  go_ret
  exact HNO.out _ _ HN.out rfl HX0.out
 subst hop
 by_cases hki : xkind = ykind
 case neg =>
  have HN := hid (show Nd.mk xop xins xkind xfa xa xbody ≠ .mk xop yins ykind yfa ya ybody from fun e => by injection e with a1 a2 a3 a4 a5 a6; exact hki a3)
  have hb : (xkind == ykind) = false := by simpa using hki
  clear hki
  go_wp2
  go_ret
  exact HNO.out _ _ HN.out rfl HX0.out
 subst hki
 by_cases hfa : xfa = yfa
 case neg =>
  have HN := hid (show Nd.mk xop xins xkind xfa xa xbody ≠ .mk xop yins xkind yfa ya ybody from fun e => by injection e with a1 a2 a3 a4 a5 a6; exact hfa a4)
  have hb : (xfa == yfa) = false := by simpa using hfa
  clear hfa
  go_wp2
  go_ret
  exact HNO.out _ _ HN.out rfl HX0.out
 subst hfa
 by_cases haa : xa = ya
 case neg =>
  have HN := hid (show Nd.mk xop xins xkind xfa xa xbody ≠ .mk xop yins xkind xfa ya ybody from fun e => by injection e with a1 a2 a3 a4 a5 a6; exact haa a5)
  have hb : (xa == ya) = false := by simpa using haa
  clear haa
  go_wp2
  go_ret
  exact HNO.out _ _ HN.out rfl HX0.out
 subst haa
 go_wp2_with fail
 refine (HEI.out _ HXU.out HYU.out).mono ?_
 rintro e w1 ⟨bi, rfl, hbi, he1⟩
 have HX1 := hid (HX0.out.trans he1)
 cases bi with
 | false =>
  have HN := hid (show Nd.mk xop xins xkind xfa xa xbody ≠ .mk xop yins xkind xfa xa ybody from fun e => by injection e with a1 a2 a3 a4 a5 a6; have := hbi.2 a2; cases this)
  clear hbi
  go_wp2
  go_ret
  exact HNO.out _ _ HN.out rfl HX1.out
 | true =>
  have HI := hid (hbi.1 rfl)
  have HXB1 := hid (HXB.out.ext he1)
  have HYB1 := hid (HYB.out.ext he1)
  have c5 := he1.cell c5
  have d5 := he1.cell d5
  clear hbi he1 c0 c1 c2 c3 c4 d0 d1 d2 d3 d4
  go_wp2_with fail
  refine (HEN.out _ HXB1.out HYB1.out).mono ?_
  rintro e w2 ⟨bn, rfl, hbn, he2⟩
  have HX2 := hid (HX1.out.trans he2)
  cases bn with
  | false =>
   have HN := hid (show Nd.mk xop xins xkind xfa xa xbody ≠ .mk xop yins xkind xfa xa ybody from fun e => by injection e with a1 a2 a3 a4 a5 a6; have := hbn.2 a6; cases this)
   clear hbn
   go_wp2
   go_ret
   exact HNO.out _ _ HN.out rfl HX2.out
  | true =>
   have HN := hid (show Nd.mk xop xins xkind xfa xa xbody = .mk xop yins xkind xfa xa ybody from by rw [HI.out, hbn.1 rfl])
   clear hbn
   go_wp2
   go_ret
   exact EqP.yes HN.out rfl HX2.out
set_option maxHeartbeats 8000000 in
theorem eqf_any : ∀ (K d d' : Nat) (v u : Value) (l r : List Nd) (w : World), Sm K l → NodesR d w v l → NodesR d' w u r →
 Calls Tryz.prog 76 #[v, u, .func (.func 77) #[] #[]] w (EqP l r w) := by
 intro K
 induction K using Nat.strongRecOn with
 | ind K ih =>
  intro d d' v u l r w hsm hv hu
  have eg : ∀ args w, (callFunc 77 args).run Tryz.prog w = .ok (.enter 77 args) w := enters_of Tryz.func77 (by kernel_rfl) rfl
  obtain ⟨A, c, rfl⟩ := hv.form
  obtain ⟨B, e, rfl⟩ := hu.form
  by_cases hlen : l.length = r.length
  case neg =>
   have hb : ((l.length : Int) != (r.length : Int)) = true := by simp; omega
   have HN := hid (show l ≠ r from fun q => hlen (by rw [q]))
   have HNO := hid (fun w' e h1 h2 => @EqP.no _ l r w w' e h1 h2)
   clear hv hu hlen hsm ih eg
   go_enter Tryz.func76, Tryz.ntmps76
   go_wp2
   go_ret
   exact HNO.out _ _ HN.out rfl (Ext.refl _)
  have hb : ((l.length : Int) != (r.length : Int)) = false := by simp; omega
  have HV := hid hv
  have HU := hid hu
  have HLEN := hid hlen
  have HSM := hid hsm.facts
  have HK0 := hid (show l ≠ [] → 0 < K from fun hne => by
   cases K with
   | zero => exact absurd hsm hne
   | succ K => omega)
  have HS := hid (fun (h0 : 0 < K) => same_of (K - 1) (fun d d' v u l r w h1 h2 h3 => ih (K - 1) (by omega) d d' v u l r w h1 h2 h3))
  have HNO := hid (fun w' e h0 h1 h2 => @EqP.no _ l r w w' e h0 h1 h2)
  clear hv hu hlen hsm ih
  go_enter Tryz.func76, Tryz.ntmps76
  go_wp2
  clear hb
  go_loopw [17] (fun iv wr => ∃ k : Nat, k ≤ l.length ∧ iv = .int .i64 (k : Int) ∧ l.take k = r.take k ∧ Ext w wr) (fun iv _ => l.length - (intOf iv).toNat)
  case atStart => exact ⟨0, Nat.zero_le _, rfl, rfl, Ext.refl _⟩
  case round =>
   obtain ⟨k, hk, rfl, hp, hext⟩ := hrel
   have HP := hid hp
   have HE := hid hext
   have hk40 : k ≤ 40 := by have := HSM.out.1; omega
   clear hp
   by_cases hlt : k < l.length
   · have q1 : (k : Int) < (l.length : Int) := by omega
     have q0 : 0 ≤ (k : Int) := by omega
     have q1n : k < l.length := hlt
     have q2n : k < r.length := by have := HLEN.out; omega
     have q2 : (k : Int) < (r.length : Int) := by omega
     have HLT := hid hlt
     obtain ⟨bA, oA, xu, xb, rfl, z0, z1, z2, z3, z4, z5, hxu, hxb⟩ := (HV.out.ext hext).at_ hlt
     obtain ⟨bB, oB, yu, yb, rfl, g0, g1, g2, g3, g4, g5, hyu, hyb⟩ := (HU.out.ext hext).at_ q2n
     have HNE := hid (fun h => at_ne hlt q2n h)
     have HEQ := hid (show l[k] = r[k] → l.take (k + 1) = r.take (k + 1) from fun h => by rw [List.take_succ_eq_append_getElem hlt, List.take_succ_eq_append_getElem q2n, HP.out]; exact congrArg (fun z => r.take k ++ [z]) h)
     have HSX := hid (HSM.out.2 l[k] (List.getElem_mem hlt))
     generalize l[k] = x at *
     generalize r[k] = y at *
     obtain ⟨xop, xins, xkind, xfa, xa, xbody⟩ := x
     obtain ⟨yop, yins, ykind, yfa, ya, ybody⟩ := y
     simp only [Nd.op, Nd.kind, Nd.fa, Nd.a, Nd.ins, Nd.body] at z0 z2 z3 z4 hxu hxb g0 g2 g3 g4 hyu hyb
     replace HSX := hid (show xins.length ≤ 40 ∧ Sm (K - 1) xbody from HSX.out)
     have HKP := hid (HK0.out (fun e => by rw [e] at hlt; simp at hlt))
     obtain ⟨Ax, cx, rfl⟩ := hxu.form
     obtain ⟨Bx, dx, rfl⟩ := hxb.form
     obtain ⟨Ay, cy, rfl⟩ := hyu.form
     obtain ⟨By, dy, rfl⟩ := hyb.form
     have hxn := (Ext.refl wr).alloc (ndCs xop xkind xfa xa (.slice Ax xins.length cx) (.slice Bx xbody.length dx))
     have g0 := hxn.cell g0
     have g1 := hxn.cell g1
     have g2 := hxn.cell g2
     have g3 := hxn.cell g3
     have g4 := hxn.cell g4
     have g5 := hxn.cell g5
     have HXN := hid hxn
     have HNB := hid (Bx6.new wr 112 (.int .i64 xop) (.slice Ax xins.length cx) (.int .i64 xkind) (.int .i64 xfa) (.int .i64 xa) (.slice Bx xbody.length dx))
     have HX1 := hid (hext.trans hxn)
     have HXU := hid (hxu.ext hxn)
     have HXB := hid (hxb.ext hxn)
     have HYU := hid (hyu.ext hxn)
     have HYB := hid (hyb.ext hxn)
     clear hxu hxb hyu hyb hxn hext hlt hk
     go_upto_region 6 with fail
     clear z0 z1 z2 z3 z4 z5
     generalize wr.heap.size = q at *
     generalize wr.alloc (ndCs xop xkind xfa xa (.slice Ax xins.length cx) (.slice Bx xbody.length dx)) = wn at *
     have hyn := (Ext.refl wn).alloc (ndCs yop ykind yfa ya (.slice Ay yins.length cy) (.slice By ybody.length dy))
     have HMB := hid (Bx6.new wn 112 (.int .i64 yop) (.slice Ay yins.length cy) (.int .i64 ykind) (.int .i64 yfa) (.int .i64 ya) (.slice By ybody.length dy))
     have HNB2 := hid (HNB.out.ext hyn)
     have HX2 := hid (HX1.out.trans hyn)
     have HXU2 := hid (HXU.out.ext hyn)
     have HXB2 := hid (HXB.out.ext hyn)
     have HYU2 := hid (HYU.out.ext hyn)
     have HYB2 := hid (HYB.out.ext hyn)
     clear hyn
     go_upto_region 7 with fail
     clear g0 g1 g2 g3 g4 g5
     generalize wn.heap.size = qm at *
     generalize wn.alloc (ndCs yop ykind yfa ya (.slice Ay yins.length cy) (.slice By ybody.length dy)) = wm at *
     obtain ⟨b0, b1, b2, b3, b4, b5⟩ := HNB2.out.at_
     obtain ⟨y0, y1, y2, y3, y4, y5⟩ := HMB.out.at_
     go_wp2_with fail
     refine (HS.out HKP.out xop xkind xfa xa yop ykind yfa ya xins yins xbody ybody _ _ _ _ _ _ wm (by have := HSX.out.1; omega) HSX.out.2 HXU2.out HXB2.out HYU2.out HYB2.out).mono ?_
     rintro e w4 ⟨b, rfl, hbb, he4⟩
     have HX4 := hid (HX2.out.trans he4)
     cases b with
     | false =>
      have HN := hid (HNE.out (fun e => by have := hbb.2 e; cases this))
      clear hbb he4
      go_wp2
      go_ret
      exact HNO.out _ _ HN.out rfl HX4.out
     | true =>
      have HTK := hid (HEQ.out (hbb.1 rfl))
      clear hbb he4
      go_wp2
      exact ⟨⟨k + 1, HLT.out, by go_num, HTK.out, HX4.out⟩, by have := HLT.out; simp [intOf]; omega⟩
   · obtain rfl : k = l.length := by omega
     have q1 : ¬ (l.length : Int) < (l.length : Int) := by omega
     have HQ := hid (show l = r by have := HP.out; rw [List.take_length, HLEN.out, List.take_length] at this; exact this)
     clear hext hk hlt
     go_wp2
     go_ret
     exact EqP.yes HQ.out rfl HE.out
set_option maxHeartbeats 4000000 in
theorem gSame_any (K d d' : Nat) (v u : Value) (l r : List Nd) (a b : Int) (w : World) (hs : Sm K l) (hv : NodesR d w v l) (hu : NodesR d' w u r) :
 Calls Tryz.prog 28 #[gAg v a, gAg u b] w (EqP ((l, a) : G) (r, b) w) := by
 obtain ⟨A, c, rfl⟩ := hv.form
 obtain ⟨B, e, rfl⟩ := hu.form
 have HX0 := hid (((Ext.refl w).alloc (gCs (.slice A l.length c) a)).alloc (gCs (.slice B r.length e) b))
 have HB0 := hid ((Blk.new w 26 #[.slice A l.length c, .int .i64 a]).ext ((Ext.refl _).alloc (gCs (.slice B r.length e) b)))
 have HC0 := hid (Blk.new (w.alloc (gCs (.slice A l.length c) a)) 26 #[.slice B r.length e, .int .i64 b])
 have HS := hid (fun w' hv hu => eqf_any K d d' (.slice A l.length c) (.slice B r.length e) l r w' hs hv hu)
 have HV := hid (hv.ext HX0.out)
 have HU := hid (hu.ext HX0.out)
 have HNO := hid (fun w' e h1 h2 h3 => @EqP.no G (l, a) (r, b) w w' e h1 h2 h3)
 have HYES := hid (fun w' e h1 h2 h3 => @EqP.yes G (l, a) (r, b) w w' e h1 h2 h3)
 clear hv hu hs
 go_enter Tryz.func28, Tryz.ntmps28
 go_upto_region 1 with fail
 obtain ⟨p, hp⟩ : ∃ p, p = w.heap.size := ⟨_, rfl⟩
 have hq : (w.alloc (gCs (.slice A l.length c) a)).heap.size = p + 1 := by rw [hp]; simp
 rw [hq] at HC0
 rw [← hp] at HB0 ⊢
 have HP := hid hp
 clear hp hq
 generalize (w.alloc (gCs (.slice A l.length c) a)).alloc (gCs (.slice B r.length e) b) = w0 at *
 have c0 : w0.cell? ⟨p, 0, none⟩ = some (.slice A l.length c) := HB0.out.cell 0
 have c1 : w0.cell? ⟨p, 1, none⟩ = some (.int .i64 a) := HB0.out.cell 1
 have d0 : w0.cell? ⟨p + 1, 0, none⟩ = some (.slice B r.length e) := HC0.out.cell 0
 have d1 : w0.cell? ⟨p + 1, 1, none⟩ = some (.int .i64 b) := HC0.out.cell 1
 by_cases hab : a = b
 case neg =>
  have HN := hid (show ((l, a) : G) ≠ (r, b) from fun q => hab (congrArg Prod.snd q))
  have hb : (a == b) = false := by simpa using hab
  go_wp2
  go_ret
  exact HNO.out _ _ HN.out rfl HX0.out
 have HAB := hid hab
 have hb : (a == b) = true := by simpa using hab
 clear hab
 go_wp2_with fail
 refine (HS.out _ HV.out HU.out).mono ?_
 rintro e w1 ⟨bb, rfl, hbb, he1⟩
 have HX1 := hid (HX0.out.trans he1)
 cases bb with
 | false =>
  have HN := hid (show ((l, a) : G) ≠ (r, b) from fun q => by have := hbb.2 (congrArg Prod.fst q); cases this)
  clear hbb
  go_wp2
  go_ret
  exact HNO.out _ _ HN.out rfl HX1.out
 | true =>
  have HN := hid (show ((l, a) : G) = (r, b) from by rw [hbb.1 rfl, HAB.out])
  clear hbb
  go_wp2
  go_ret
  exact HYES.out _ _ HN.out rfl HX1.out
end Go.Proofs.YtpmpjjhchkoboaaGreatDoor
