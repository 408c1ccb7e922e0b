/-
  ScrR2, ScrArgs, packed: what the claim needs of them.
-/
import Derived.Test.YtpmpjjhchkoboaaGreatDoorPb21
import Derived.Test.YtpmpjjhchkoboaaGreatDoorPb24
import Derived.Test.YtpmpjjhchkoboaaGreatDoorPb28
import Derived.Test.YtpmpjjhchkoboaaGreatDoorPb40
import Derived.Test.YtpmpjjhchkoboaaGreatDoorPb14
import Derived.Test.YtpmpjjhchkoboaaGreatDoorPb36
import Derived.Test.YtpmpjjhchkoboaaGreatDoorPb31
set_option linter.unusedSimpArgs false
set_option linter.unusedVariables false
set_option maxRecDepth 100000
namespace Go.Proofs.YtpmpjjhchkoboaaGreatDoor
open Go.RowKit Go.Ox Go.Ox.Gr Go.Ox.Sc
attribute [local irreducible] RE OE EpR InsR ActsR RP NodesR
theorem epOk_no1 {L : List Bag} (h : ¬ L.length ≤ 4) : epOk L = false := by unfold epOk; rw [decide_eq_false h, Bool.false_and]
theorem epOk_no2 {L : List Bag} {k : Nat} (h : k < L.length) (hm : Rec.may L[k] ≠ 0) : epOk L = false := by
  cases hx : epOk L with
  | false => rfl
  | true =>
    unfold epOk at hx
    simp only [Bool.and_eq_true, List.all_eq_true, decide_eq_true_eq] at hx
    exact absurd (hx.2 _ (List.getElem_mem h)) hm
theorem epOk_yes {L : List Bag} (h : L.length ≤ 4) (hm : (L.all fun b => decide (Rec.may b = 0)) = true) : epOk L = true := by unfold epOk; rw [decide_eq_true h, hm]; rfl
theorem all_s {α : Type} (p : α → Bool) (l : List α) {k : Nat} (h : k < l.length) (hp : (l.take k).all p = true) : (l.take (k + 1)).all p = p l[k] := by
  rw [List.take_succ_eq_append_getElem h, List.all_append, hp, Bool.true_and]; exact Bool.and_true _
theorem all_no {α : Type} (p : α → Bool) (l : List α) {k : Nat} (h : k < l.length) (hp : p l[k] = false) : l.all p = false := by
  cases hx : l.all p with
  | false => rfl
  | true =>
    have := List.all_eq_true.1 hx _ (List.getElem_mem h)
    rw [hp] at this; cases this
structure Bx4 (w : World) (p : Nat) (T : TypeId) (c0 c1 c2 c3 : Value) : Prop where
  b : Blk w p T #[c0, c1, c2, c3]
section
variable {w w' : World} {p : Nat} {T : TypeId} {c0 c1 c2 c3 : Value}
theorem Bx4.at_ (h : Bx4 w p T c0 c1 c2 c3) : w.cell? ⟨p, 0, none⟩ = some c0 ∧ w.cell? ⟨p, 1, none⟩ = some c1 ∧ w.cell? ⟨p, 2, none⟩ = some c2 ∧ w.cell? ⟨p, 3, none⟩ = some c3 :=
  ⟨h.b.cell 0, h.b.cell 1, h.b.cell 2, h.b.cell 3⟩
theorem Bx4.ext (h : Bx4 w p T c0 c1 c2 c3) (he : Ext w w') : Bx4 w' p T c0 c1 c2 c3 := ⟨h.b.ext he⟩
theorem Bx4.new (w : World) (T : TypeId) (c0 c1 c2 c3 : Value) : Bx4 (w.alloc (.cells #[c0, c1, c2, c3] T)) w.heap.size T c0 c1 c2 c3 := ⟨Blk.new _ _ _⟩
end
theorem scOk_alt (k0 k1 k2 k3 : Int) (g : Gr.G) (ins : List (List Bag)) (acts : List Sc.Act) : scOk ⟨(k0, k1, k2, k3), g, ins, acts⟩ =
    (inR k0 1073741824 && (inR k1 1073741824 && (inR k2 1073741824 && (inR k3 1073741824 && (Gr.gOk g && (decide (ins.length ≤ 16) && (decide (acts.length ≤ 256) && (ins.all epOk && acts.all actOk)))))))) := by
  have e : scOk ⟨(k0, k1, k2, k3), g, ins, acts⟩ = (([k0, k1, k2, k3].all fun n => inR n 1073741824) && Gr.gOk g && decide (ins.length ≤ 16) && ins.all epOk && decide (acts.length ≤ 256) && acts.all actOk) := rfl
  rw [e]
  simp only [List.all_cons, List.all_nil, Bool.and_true, Bool.and_assoc]
  congr 6
  cases ins.all epOk <;> cases decide (acts.length ≤ 256) <;> rfl
set_option maxHeartbeats 8000000 in
theorem rCheck26_any (d : Nat) (s : Sc) (nv iv av : Value) (w : World) (h : ScR d w nv iv av s) (hs : ScSm s) :
    Calls Tryz.prog 11 #[scAg s nv iv av] w fun e w' => e = .returned (.bool (scOk s)) ∧ Ext w w' := by
  obtain ⟨⟨k0, k1, k2, k3⟩, ⟨ns, out⟩, ins, acts⟩ := s
  obtain ⟨hn, hi, ha⟩ := h
  obtain ⟨hs1, hs2, hs3, hs4⟩ := hs
  dsimp only at *
  have HR := Lib.hid (scOk_alt k0 k1 k2 k3 (ns, out) ins acts)
  generalize scOk ⟨(k0, k1, k2, k3), (ns, out), ins, acts⟩ = res at *
  have HX := Lib.hid ((Ext.refl w).alloc (scCs (.int .i64 k0) (.int .i64 k1) (.int .i64 k2) (.int .i64 k3) nv out iv av))
  have HB := Lib.hid (Bx8.new w 30 (.int .i64 k0) (.int .i64 k1) (.int .i64 k2) (.int .i64 k3) nv (.int .i64 out) iv av)
  have HN := Lib.hid (hn.ext HX.out)
  have HI := Lib.hid (hi.ext HX.out)
  have HA := Lib.hid (ha.ext HX.out)
  have HCG := Lib.hid (fun W (h : NodesR d W nv ns) => rCheck_any d nv ns out W h)
  have H0 := Lib.hid (fun W => rnumber_any k0 W)
  have H1 := Lib.hid (fun W => rnumber_any k1 W)
  have H2 := Lib.hid (fun W => rnumber_any k2 W)
  have H3 := Lib.hid (fun W => rnumber_any k3 W)
  have HS2 := Lib.hid hs2
  have HS4 := Lib.hid hs4
  have HSA := Lib.hid (show ∀ (k : Nat) (h : k < ins.length), epOk ins[k] = false → ins.all epOk = false from fun k h q => all_no epOk ins h q)
  have HSB := Lib.hid (show ∀ (k : Nat) (h : k < acts.length), actOk acts[k] = false → acts.all actOk = false from fun k h q => all_no actOk acts h q)
  have HTA := Lib.hid (fun (k : Nat) (h : k < ins.length) q => all_s epOk ins h q)
  have HTB := Lib.hid (fun (k : Nat) (h : k < acts.length) q => all_s actOk acts h q)
  generalize inR k0 1073741824 = b0 at *
  generalize inR k1 1073741824 = b1 at *
  generalize inR k2 1073741824 = b2 at *
  generalize inR k3 1073741824 = b3 at *
  generalize gOk (ns, out) = b4 at *
  obtain ⟨AN, cN, rfl⟩ := hn.form
  obtain ⟨AI, cI, rfl⟩ := hi.form
  obtain ⟨AA, cA, rfl⟩ := ha.form
  clear hn hi ha hs1 hs2 hs3 hs4
  go_enter Tryz.func11, Tryz.ntmps11
  go_upto_region 1 with fail
  generalize w.heap.size = p at *
  generalize w.alloc (scCs (.int .i64 k0) (.int .i64 k1) (.int .i64 k2) (.int .i64 k3) (.slice AN ns.length cN) out (.slice AI ins.length cI) (.slice AA acts.length cA)) = w0 at *
  obtain ⟨c0, c1, c2, c3, c4, c5, c6, c7⟩ := HB.out.at_
  have HXC := Lib.hid ((Ext.refl w0).alloc (.cells #[.int .i64 k0, .int .i64 k1, .int .i64 k2, .int .i64 k3] 23))
  have HBC := Lib.hid (Bx4.new w0 23 (.int .i64 k0) (.int .i64 k1) (.int .i64 k2) (.int .i64 k3))
  have HB1 := Lib.hid (HB.out.ext HXC.out)
  have HX1 := Lib.hid (HX.out.trans HXC.out)
  go_upto_region 2 with fail
  clear c0 c1 c2 c3 c4 c5 c6 c7
  generalize w0.heap.size = q at *
  generalize w0.alloc (.cells #[.int .i64 k0, .int .i64 k1, .int .i64 k2, .int .i64 k3] 23) = w1 at *
  obtain ⟨c0, c1, c2, c3, c4, c5, c6, c7⟩ := HB1.out.at_
  obtain ⟨d0, d1, d2, d3⟩ := HBC.out.at_
  go_wp2_with fail
  refine (H0.out _).mono ?_
  rintro e w2 ⟨rfl, rfl⟩
  cases b0 with
  | false => obtain rfl : res = false := HR.out; go_wp2; go_ret; exact ⟨rfl, HX1.out⟩
  | true =>
  go_wp2_with fail
  refine (H1.out _).mono ?_
  rintro e w2 ⟨rfl, rfl⟩
  cases b1 with
  | false => obtain rfl : res = false := HR.out; go_wp2; go_ret; exact ⟨rfl, HX1.out⟩
  | true =>
  go_wp2_with fail
  refine (H2.out _).mono ?_
  rintro e w2 ⟨rfl, rfl⟩
  cases b2 with
  | false => obtain rfl : res = false := HR.out; go_wp2; go_ret; exact ⟨rfl, HX1.out⟩
  | true =>
  go_wp2_with fail
  refine (H3.out _).mono ?_
  rintro e w2 ⟨rfl, rfl⟩
  cases b3 with
  | false => obtain rfl : res = false := HR.out; go_wp2; go_ret; exact ⟨rfl, HX1.out⟩
  | true =>
  go_wp2_with fail
  refine (HCG.out _ (HN.out.ext HXC.out)).mono ?_
  rintro e w3 ⟨rfl, he3⟩
  have HX3 := Lib.hid (HX1.out.trans he3)
  have HE3 := Lib.hid (HXC.out.trans he3)
  have HB3 := Lib.hid (HB1.out.ext he3)
  clear he3 c0 c1 c2 c3 c4 c5 c6 c7 d0 d1 d2 d3
  obtain ⟨c0, c1, c2, c3, c4, c5, c6, c7⟩ := HB3.out.at_
  cases b4 with
  | false => obtain rfl : res = false := HR.out; go_wp2; go_ret; exact ⟨rfl, HX3.out⟩
  | true =>
  by_cases hi : ins.length ≤ 16
  case neg =>
    have hi2 : decide (16 < (ins.length : Int)) = true := decide_eq_true (by omega)
    obtain rfl : res = false := by rw [HR.out, decide_eq_false hi]; rfl
    clear hi
    go_wp2
    go_ret
    exact ⟨rfl, HX3.out⟩
  by_cases ha : acts.length ≤ 256
  case neg =>
    have hi2 : decide (16 < (ins.length : Int)) = false := decide_eq_false (by omega)
    have hi3 : decide (256 < (acts.length : Int)) = true := decide_eq_true (by omega)
    obtain rfl : res = false := by rw [HR.out, decide_eq_true hi, decide_eq_false ha]; rfl
    clear hi ha
    go_wp2
    go_ret
    exact ⟨rfl, HX3.out⟩
  have hi2 : decide (16 < (ins.length : Int)) = false := decide_eq_false (by omega)
  have hi3 : decide (256 < (acts.length : Int)) = false := decide_eq_false (by omega)
  rw [decide_eq_true hi, decide_eq_true ha] at HR
  replace HR := Lib.hid (show res = (ins.all epOk && acts.all actOk) from HR.out)
  have HI16 := Lib.hid hi
  have HA256 := Lib.hid ha
  clear hi ha
  go_wp2
  clear hi2 hi3 c0 c1 c2 c3 c4 c5 c6 c7
  go_loopw [4] (fun iv wr => ∃ i : Nat, i ≤ ins.length ∧ iv = .int .i64 (i : Int) ∧ (ins.take i).all epOk = true ∧ Ext w3 wr) (fun iv _ => ins.length - (intOf iv).toNat)
  case atStart => exact ⟨0, Nat.zero_le _, rfl, rfl, Ext.refl _⟩
  case round =>
    obtain ⟨i, hi, rfl, hp, hext⟩ := hrel
    have HP := Lib.hid hp
    have HE := Lib.hid hext
    have hi16 : i ≤ 16 := by have := HI16.out; omega
    obtain ⟨c0, c1, c2, c3, c4, c5, c6, c7⟩ := (HB3.out.ext hext).at_
    clear hp
    by_cases hlt : i < ins.length
    · have q1 : (i : Int) < (ins.length : Int) := by omega
      have q0 : 0 ≤ (i : Int) := by omega
      have q1n : i < ins.length := hlt
      have HLT := Lib.hid hlt
      obtain ⟨bI, oI, u0, rfl, z0, hu0⟩ := (InsR.ext HI.out (HE3.out.trans hext)).at_ hlt
      have HST := Lib.hid (HTA.out i hlt HP.out)
      have HBAD := Lib.hid (show epOk ins[i] = false → res = false from fun h => by rw [HR.out, HSA.out i hlt h]; rfl)
      have HLB := Lib.hid (HS2.out _ (List.getElem_mem hlt))
      generalize ins[i] = L at *
      have HU0 := Lib.hid hu0
      obtain ⟨AL, cL, rfl⟩ := hu0.form
      have HZ0 := Lib.hid z0
      clear hu0 hlt hi hext
      by_cases hl4 : L.length ≤ 4
      case neg =>
        have hl4b : decide (4 < (L.length : Int)) = true := decide_eq_true (by omega)
        obtain rfl : res = false := HBAD.out (epOk_no1 hl4)
        clear hl4
        go_wp2
        go_ret
        exact ⟨rfl, HX3.out.trans HE.out⟩
      have hl4b : decide (4 < (L.length : Int)) = false := decide_eq_false (by omega)
      have HL4 := Lib.hid hl4
      clear hl4
      go_wp2
      clear hl4b q1 q0 q1n hi16 z0 c0 c1 c2 c3 c4 c5 c6 c7
      go_loopw [5] (fun jv wq => ∃ k : Nat, k ≤ L.length ∧ jv = .int .i64 (k : Int) ∧ (L.take k).all (fun b => decide (Rec.may b = 0)) = true ∧ Ext wr wq) (fun jv _ => L.length - (intOf jv).toNat)
      case atStart => exact ⟨0, Nat.zero_le _, rfl, rfl, Ext.refl _⟩
      case round =>
        obtain ⟨k, hk, rfl, hp, hext⟩ := hrel
        have HP2 := Lib.hid hp
        have HEQ := Lib.hid hext
        have HEW := Lib.hid (HE.out.trans hext)
        have hk4 : k ≤ 4 := by have := HL4.out; omega
        have hi16 : i ≤ 16 := by have := HI16.out; have := HLT.out; omega
        have q1 : (i : Int) < (ins.length : Int) := by have := HLT.out; omega
        have q0 : 0 ≤ (i : Int) := by omega
        have q1n : i < ins.length := HLT.out
        obtain ⟨c0, c1, c2, c3, c4, c5, c6, c7⟩ := (HB3.out.ext HEW.out).at_
        have z0 := hext.cell HZ0.out
        clear hp
        by_cases hkl : k < L.length
        · have r1 : (k : Int) < (L.length : Int) := by omega
          have r0 : 0 ≤ (k : Int) := by omega
          have r1n : k < L.length := hkl
          have HKL := Lib.hid hkl
          obtain ⟨bE, oE, u3, rfl, y0, hu3⟩ := (EpR.ext HU0.out hext).at_ hkl
          have HS2 := Lib.hid (all_s (fun b => decide (Rec.may b = 0)) L hkl HP2.out)
          have HB2 := Lib.hid (show Rec.may L[k] ≠ 0 → res = false from fun h => HBAD.out (epOk_no2 hkl h))
          have HMY := Lib.hid (rmay_any u3 L[k] _ hu3 (HLB.out.2 _ (List.getElem_mem hkl)))
          generalize L[k] = B at *
          generalize Rec.may B = m at *
          obtain ⟨AB, cB, rfl⟩ := hu3.form
          clear hu3 hkl hk hext
          by_cases hm : m = 0
          · have hmb : (m != 0) = false := by simpa using hm
            have HM := Lib.hid hm
            clear hm
            go_wp2_with fail
            refine HMY.out.mono ?_
            rintro e w5 ⟨rfl, he5⟩
            go_wp2
            exact ⟨⟨k + 1, HKL.out, by go_num, by rw [HS2.out]; exact decide_eq_true HM.out, HEQ.out.trans he5⟩, by have := HKL.out; simp [intOf]; omega⟩
          · have hmb : (m != 0) = true := by simpa using hm
            obtain rfl : res = false := HB2.out hm
            clear hm
            go_wp2_with fail
            refine HMY.out.mono ?_
            rintro e w5 ⟨rfl, he5⟩
            go_wp2
            go_ret
            exact ⟨rfl, (HX3.out.trans HEW.out).trans he5⟩
        · obtain rfl : k = L.length := by omega
          have r1 : ¬ (L.length : Int) < (L.length : Int) := by omega
          rw [List.take_length] at HP2
          have HEP := Lib.hid (epOk_yes HL4.out HP2.out)
          clear hk hkl hext
          go_wp2
          exact ⟨⟨i + 1, HLT.out, by go_num, by rw [HST.out]; exact HEP.out, HEW.out⟩, by have := HLT.out; simp [intOf]; omega⟩
    · obtain rfl : i = ins.length := by omega
      have q1 : ¬ (ins.length : Int) < (ins.length : Int) := by omega
      rw [List.take_length] at HP
      replace HR := Lib.hid (show res = acts.all actOk from by rw [HR.out, HP.out]; rfl)
      have HX4 := Lib.hid (HX3.out.trans HE.out)
      have HE4 := Lib.hid (HE3.out.trans HE.out)
      have HB4 := Lib.hid (HB3.out.ext HE.out)
      clear hi hlt hext
      go_wp2
      clear c0 c1 c2 c3 c4 c5 c6 c7 q1
      go_loopw [6] (fun jv wq => ∃ k : Nat, k ≤ acts.length ∧ jv = .int .i64 (k : Int) ∧ (acts.take k).all actOk = true ∧ Ext wr wq) (fun jv _ => acts.length - (intOf jv).toNat)
      case atStart => exact ⟨0, Nat.zero_le _, rfl, rfl, Ext.refl _⟩
      case round =>
        obtain ⟨k, hk, rfl, hp, hext⟩ := hrel
        have HP2 := Lib.hid hp
        have HEQ := Lib.hid hext
        have hk256 : k ≤ 256 := by have := HA256.out; omega
        obtain ⟨c0, c1, c2, c3, c4, c5, c6, c7⟩ := (HB4.out.ext hext).at_
        clear hp
        by_cases hkl : k < acts.length
        · have r1 : (k : Int) < (acts.length : Int) := by omega
          have r0 : 0 ≤ (k : Int) := by omega
          have r1n : k < acts.length := hkl
          have HKL := Lib.hid hkl
          obtain ⟨bE, oE, u3, rfl, z0, z1, z2, z3, z4, z5, hu3⟩ := (ActsR.ext HA.out (HE4.out.trans hext)).at_ hkl
          have HS2 := Lib.hid (HTB.out k hkl HP2.out)
          have HB2 := Lib.hid (show actOk acts[k] = false → res = false from fun h => by rw [HR.out, HSB.out k hkl h])
          generalize acts[k] = a at *
          obtain ⟨⟨ak, an, aa, ab, at_⟩, ks⟩ := a
          dsimp only at z0 z1 z2 z3 z4 z5 hu3
          have HMY := Lib.hid (actMay_any ak an aa ab at_ u3 ks _ hu3)
          generalize actOk ((ak, an, aa, ab, at_), ks) = m at *
          obtain ⟨AB, cB, rfl⟩ := hu3.form
          clear hu3 hkl hk hext
          go_wp2_with fail
          refine HMY.out.mono ?_
          rintro e w5 ⟨rfl, he5⟩
          cases m with
          | true =>
            go_wp2
            exact ⟨⟨k + 1, HKL.out, by go_num, HS2.out, HEQ.out.trans he5⟩, by have := HKL.out; simp [intOf]; omega⟩
          | false =>
            obtain rfl : res = false := HB2.out rfl
            go_wp2
            go_ret
            exact ⟨rfl, (HX4.out.trans HEQ.out).trans he5⟩
        · obtain rfl : k = acts.length := by omega
          have r1 : ¬ (acts.length : Int) < (acts.length : Int) := by omega
          rw [List.take_length] at HP2
          obtain rfl : res = true := by rw [HR.out, HP2.out]
          clear hk hkl hext
          go_wp2
          go_ret
          exact ⟨rfl, HX4.out.trans HEQ.out⟩
def ep10 (l : List Bag) : Bool := decide (10 < l.length) || l.any fun b => decide (300 < b.length)
def scBig (s : Sc) : Bool := deepB 4 s.g.1 || (decide (20 < s.ins.length) || (decide (300 < s.acts.length) || (s.ins.any ep10 || s.acts.any fun a => decide (300 < a.2.length))))
theorem scBig_no {s : Sc} (h : scBig s = false) : deepB 4 s.g.1 = false ∧ s.ins.length ≤ 20 ∧ s.acts.length ≤ 300 ∧ (∀ l ∈ s.ins, l.length ≤ 10 ∧ ∀ b ∈ l, b.length ≤ 300) ∧ ∀ a ∈ s.acts, a.2.length ≤ 300 := by
  unfold scBig at h
  simp only [Bool.or_eq_false_iff, decide_eq_false_iff_not, List.any_eq_false] at h
  obtain ⟨h1, h2, h3, h4, h5⟩ := h
  refine ⟨h1, by omega, by omega, fun l hl => ?_, fun a ha => by have := h5 a ha; simp at this; omega⟩
  have h6 := h4 l hl
  unfold ep10 at h6
  simp only [Bool.or_eq_true, decide_eq_true_eq, List.any_eq_true, not_or, not_exists, not_and] at h6
  exact ⟨by omega, fun b hb => by have := h6.2 b hb; omega⟩
theorem ScSm.of_big {s : Sc} (h : scBig s = false) : ScSm s := by
  obtain ⟨h1, h2, h3, h4, h5⟩ := scBig_no h
  exact ⟨by omega, fun l hl => ⟨by have := (h4 l hl).1; omega, fun b hb => by have := (h4 l hl).2 b hb; omega⟩, by omega, fun a ha => by have := h5 a ha; omega⟩
theorem any_s {α : Type} (p : α → Bool) (l : List α) {k : Nat} (h : k < l.length) (hp : (l.take k).any p = false) : (l.take (k + 1)).any p = p l[k] := by
  rw [List.take_succ_eq_append_getElem h, List.any_append, hp, Bool.false_or]; simp
theorem any_yes {α : Type} (p : α → Bool) (l : List α) {k : Nat} (h : k < l.length) (hp : p l[k] = true) : l.any p = true := List.any_eq_true.2 ⟨_, List.getElem_mem h, hp⟩
set_option maxHeartbeats 8000000 in
theorem rLarge26_any (d : Nat) (s : Sc) (nv iv av : Value) (w : World) (h : ScR d w nv iv av s) :
    Calls Tryz.prog 6 #[scAg s nv iv av] w fun e w' => e = .returned (.bool (scBig s)) ∧ Ext w w' := by
  have HR := Lib.hid (show scBig s = (deepB 4 s.g.1 || (decide (20 < s.ins.length) || (decide (300 < s.acts.length) || (s.ins.any ep10 || s.acts.any fun a => decide (300 < a.2.length))))) from rfl)
  generalize scBig s = res at *
  obtain ⟨⟨k0, k1, k2, k3⟩, ⟨ns, out⟩, ins, acts⟩ := s
  obtain ⟨hn, hi, ha⟩ := h
  dsimp only at *
  have HX := Lib.hid ((Ext.refl w).alloc (scCs (.int .i64 k0) (.int .i64 k1) (.int .i64 k2) (.int .i64 k3) nv out iv av))
  have HB := Lib.hid (Bx8.new w 30 (.int .i64 k0) (.int .i64 k1) (.int .i64 k2) (.int .i64 k3) nv (.int .i64 out) iv av)
  have HI := Lib.hid (hi.ext HX.out)
  have HA := Lib.hid (ha.ext HX.out)
  have HD := Lib.hid (deep_any 4 0 d nv ns _ (Nat.le_refl _) (by omega) (hn.ext HX.out))
  have HSA := Lib.hid (fun (k : Nat) (h : k < ins.length) q => any_yes ep10 ins h q)
  have HSB := Lib.hid (fun (k : Nat) (h : k < acts.length) q => any_yes (fun a => decide (300 < a.2.length)) acts h q)
  have HTA := Lib.hid (fun (k : Nat) (h : k < ins.length) q => any_s ep10 ins h q)
  have HTB := Lib.hid (fun (k : Nat) (h : k < acts.length) q => any_s (fun a => decide (300 < a.2.length)) acts h q)
  generalize deepB 4 ns = b0 at *
  obtain ⟨AN, cN, rfl⟩ := hn.form
  obtain ⟨AI, cI, rfl⟩ := hi.form
  obtain ⟨AA, cA, rfl⟩ := ha.form
  clear hn hi ha
  go_enter Tryz.func6, Tryz.ntmps6
  go_upto_region 1 with fail
  generalize w.heap.size = p at *
  generalize w.alloc (scCs (.int .i64 k0) (.int .i64 k1) (.int .i64 k2) (.int .i64 k3) (.slice AN ns.length cN) out (.slice AI ins.length cI) (.slice AA acts.length cA)) = w0 at *
  obtain ⟨c0, c1, c2, c3, c4, c5, c6, c7⟩ := HB.out.at_
  go_wp2_with fail
  refine HD.out.mono ?_
  rintro e w1 ⟨rfl, rfl⟩
  cases b0 with
  | true => obtain rfl : res = true := HR.out; go_wp2; go_ret; exact ⟨rfl, HX.out⟩
  | false =>
  by_cases hi : 20 < ins.length
  · have hi2 : decide (20 < (ins.length : Int)) = true := decide_eq_true (by omega)
    obtain rfl : res = true := by rw [HR.out, decide_eq_true hi]; rfl
    clear hi
    go_wp2
    go_ret
    exact ⟨rfl, HX.out⟩
  have hi2 : decide (20 < (ins.length : Int)) = false := decide_eq_false (by omega)
  by_cases ha : 300 < acts.length
  · have hi3 : decide (300 < (acts.length : Int)) = true := decide_eq_true (by omega)
    obtain rfl : res = true := by rw [HR.out, decide_eq_false hi, decide_eq_true ha]; rfl
    clear hi ha
    go_wp2
    go_ret
    exact ⟨rfl, HX.out⟩
  have hi3 : decide (300 < (acts.length : Int)) = false := decide_eq_false (by omega)
  rw [decide_eq_false hi, decide_eq_false ha] at HR
  replace HR := Lib.hid (show res = (ins.any ep10 || acts.any fun a => decide (300 < a.2.length)) from HR.out)
  have HI16 := Lib.hid hi
  have HA256 := Lib.hid ha
  clear hi ha
  go_wp2
  clear hi2 hi3 c0 c1 c2 c3 c4 c5 c6 c7
  go_loopw [3] (fun iv wr => ∃ i : Nat, i ≤ ins.length ∧ iv = .int .i64 (i : Int) ∧ (ins.take i).any ep10 = false ∧ wr = w0) (fun iv _ => ins.length - (intOf iv).toNat)
  case atStart => exact ⟨0, Nat.zero_le _, rfl, rfl, rfl⟩
  case round =>
    obtain ⟨i, hi, rfl, hp, hwr⟩ := hrel
    subst hwr
    rename World => wr
    have HP := Lib.hid hp
    have hi16 : i ≤ 20 := by have := HI16.out; omega
    obtain ⟨c0, c1, c2, c3, c4, c5, c6, c7⟩ := HB.out.at_
    clear hp
    by_cases hlt : i < ins.length
    · have q1 : (i : Int) < (ins.length : Int) := by omega
      have q0 : 0 ≤ (i : Int) := by omega
      have q1n : i < ins.length := hlt
      have HLT := Lib.hid hlt
      obtain ⟨bI, oI, u0, rfl, z0, hu0⟩ := HI.out.at_ hlt
      have HST := Lib.hid (HTA.out i hlt HP.out)
      have HBAD := Lib.hid (show ep10 ins[i] = true → res = true from fun h => by rw [HR.out, HSA.out i hlt h]; rfl)
      generalize ins[i] = L at *
      have HU0 := Lib.hid hu0
      obtain ⟨AL, cL, rfl⟩ := hu0.form
      have HZ0 := Lib.hid z0
      clear hu0 hlt hi
      by_cases hl4 : 10 < L.length
      · have hl4b : decide (10 < (L.length : Int)) = true := decide_eq_true (by omega)
        obtain rfl : res = true := HBAD.out (by unfold ep10; rw [decide_eq_true hl4]; rfl)
        clear hl4
        go_wp2
        go_ret
        exact ⟨rfl, HX.out⟩
      have hl4b : decide (10 < (L.length : Int)) = false := decide_eq_false (by omega)
      have HL4 := Lib.hid hl4
      clear hl4
      go_wp2
      clear hl4b q1 q0 q1n hi16 z0 c0 c1 c2 c3 c4 c5 c6 c7
      go_loopw [4] (fun jv wq => ∃ k : Nat, k ≤ L.length ∧ jv = .int .i64 (k : Int) ∧ (L.take k).any (fun b => decide (300 < b.length)) = false ∧ wq = wr) (fun jv _ => L.length - (intOf jv).toNat)
      case atStart => exact ⟨0, Nat.zero_le _, rfl, rfl, rfl⟩
      case round =>
        obtain ⟨k, hk, rfl, hp, hwq⟩ := hrel
        subst hwq
        rename World => wq
        have HP2 := Lib.hid hp
        have hk4 : k ≤ 10 := by have := HL4.out; omega
        have hi16 : i ≤ 20 := by have := HI16.out; have := HLT.out; omega
        have q1 : (i : Int) < (ins.length : Int) := by have := HLT.out; omega
        have q0 : 0 ≤ (i : Int) := by omega
        have q1n : i < ins.length := HLT.out
        obtain ⟨c0, c1, c2, c3, c4, c5, c6, c7⟩ := HB.out.at_
        have z0 := HZ0.out
        clear hp
        by_cases hkl : k < L.length
        · have r1 : (k : Int) < (L.length : Int) := by omega
          have r0 : 0 ≤ (k : Int) := by omega
          have r1n : k < L.length := hkl
          have HKL := Lib.hid hkl
          obtain ⟨bE, oE, u3, rfl, y0, hu3⟩ := HU0.out.at_ hkl
          have HS2 := Lib.hid (any_s (fun b : Bag => decide (300 < b.length)) L hkl HP2.out)
          have HB2 := Lib.hid (show decide (300 < L[k].length) = true → res = true from fun h => HBAD.out (by unfold ep10; rw [any_yes (fun b : Bag => decide (300 < b.length)) L hkl h]; simp))
          generalize L[k] = B at *
          obtain ⟨AB, cB, rfl⟩ := hu3.form
          clear hu3 hkl hk
          by_cases hm : 300 < B.length
          · have hmb : decide (300 < (B.length : Int)) = true := decide_eq_true (by omega)
            obtain rfl : res = true := HB2.out (decide_eq_true hm)
            clear hm
            go_wp2
            go_ret
            exact ⟨rfl, HX.out⟩
          · have hmb : decide (300 < (B.length : Int)) = false := decide_eq_false (by omega)
            have HM := Lib.hid hm
            clear hm
            go_wp2
            exact ⟨⟨k + 1, HKL.out, by go_num, by rw [HS2.out]; exact decide_eq_false HM.out, by first | trivial | rfl⟩, by have := HKL.out; simp [intOf]; omega⟩
        · obtain rfl : k = L.length := by omega
          have r1 : ¬ (L.length : Int) < (L.length : Int) := by omega
          rw [List.take_length] at HP2
          have HEP := Lib.hid (show ep10 L = false from by unfold ep10; rw [decide_eq_false HL4.out, HP2.out]; rfl)
          clear hk hkl
          go_wp2
          exact ⟨⟨i + 1, HLT.out, by go_num, by rw [HST.out]; exact HEP.out, by first | trivial | rfl⟩, by have := HLT.out; simp [intOf]; omega⟩
    · obtain rfl : i = ins.length := by omega
      have q1 : ¬ (ins.length : Int) < (ins.length : Int) := by omega
      rw [List.take_length] at HP
      replace HR := Lib.hid (show res = acts.any fun a => decide (300 < a.2.length) from by rw [HR.out, HP.out]; rfl)
      clear hi hlt
      go_wp2
      clear c0 c1 c2 c3 c4 c5 c6 c7 q1
      go_loopw [5] (fun jv wq => ∃ k : Nat, k ≤ acts.length ∧ jv = .int .i64 (k : Int) ∧ (acts.take k).any (fun a => decide (300 < a.2.length)) = false ∧ wq = wr) (fun jv _ => acts.length - (intOf jv).toNat)
      case atStart => exact ⟨0, Nat.zero_le _, rfl, rfl, rfl⟩
      case round =>
        obtain ⟨k, hk, rfl, hp, hwq⟩ := hrel
        subst hwq
        rename World => wq
        have HP2 := Lib.hid hp
        have hk256 : k ≤ 300 := by have := HA256.out; omega
        obtain ⟨c0, c1, c2, c3, c4, c5, c6, c7⟩ := HB.out.at_
        clear hp
        by_cases hkl : k < acts.length
        · have r1 : (k : Int) < (acts.length : Int) := by omega
          have r0 : 0 ≤ (k : Int) := by omega
          have r1n : k < acts.length := hkl
          have HKL := Lib.hid hkl
          obtain ⟨bE, oE, u3, rfl, z0, z1, z2, z3, z4, z5, hu3⟩ := HA.out.at_ hkl
          have HS2 := Lib.hid (HTB.out k hkl HP2.out)
          have HB2 := Lib.hid (show decide (300 < acts[k].2.length) = true → res = true from fun h => by rw [HR.out, HSB.out k hkl h])
          generalize acts[k] = a at *
          obtain ⟨⟨ak, an, aa, ab, at_⟩, ks⟩ := a
          dsimp only at z0 z1 z2 z3 z4 z5 hu3 HS2 HB2
          obtain ⟨AB, cB, rfl⟩ := hu3.form
          clear hu3 hkl hk
          by_cases hm : 300 < ks.length
          · have hmb : decide (300 < (ks.length : Int)) = true := decide_eq_true (by omega)
            obtain rfl : res = true := HB2.out (decide_eq_true hm)
            clear hm
            go_wp2
            go_ret
            exact ⟨rfl, HX.out⟩
          · have hmb : decide (300 < (ks.length : Int)) = false := decide_eq_false (by omega)
            have HM := Lib.hid hm
            clear hm
            go_wp2
            exact ⟨⟨k + 1, HKL.out, by go_num, by rw [HS2.out]; exact decide_eq_false HM.out, by first | trivial | rfl⟩, by have := HKL.out; simp [intOf]; omega⟩
        · obtain rfl : k = acts.length := by omega
          have r1 : ¬ (acts.length : Int) < (acts.length : Int) := by omega
          rw [List.take_length] at HP2
          obtain rfl : res = false := by rw [HR.out, HP2.out]
          clear hk hkl
          go_wp2
          go_ret
          exact ⟨rfl, HX.out⟩
end Go.Proofs.YtpmpjjhchkoboaaGreatDoor
namespace Go.Ox.Sc
open Go.RowKit Go.Ox Go.Ox.Gr
theorem srt_srt (l : Bag) : Rec.srt (Rec.srt l) = Rec.srt l := (Rec.srt_is (Rec.srt_asc l) (List.Perm.refl _)).symm
theorem encL_srt (l : Bag) : Rec.encL (Rec.srt l) = Rec.encL l := by unfold Rec.encL; rw [srt_srt, Rec.srt_len]
theorem may_srt_eq (l : Bag) : Rec.may (Rec.srt l) = Rec.may l := by
  unfold Rec.may
  have h : ((Rec.srt l).any fun x => !Rec.ok x) = l.any fun x => !Rec.ok x := by
    rw [Bool.eq_iff_iff]
    simp [List.any_eq_true, (Rec.srt_perm l).mem_iff]
  rw [h, Rec.srt_len]
theorem bagL_srt (b : Bag) : bagL (Rec.srt b) = bagL b := by unfold bagL; rw [encL_srt]
theorem epL_srt (l : List Bag) : epL (srtE l) = epL l := by
  unfold epL srtE
  rw [List.length_map, List.flatMap_map]
  simp only [bagL_srt]
theorem epOk_srt (l : List Bag) : epOk (srtE l) = epOk l := by
  unfold epOk srtE
  rw [List.length_map, List.all_map]
  congr 2
  funext b
  simp [may_srt_eq]
theorem scL_nrm (s : Sc) : scL (nrm s) = scL s := by
  unfold scL nrm
  dsimp only
  rw [List.length_map, List.flatMap_map]
  simp only [epL_srt]
theorem scOk_nrm (s : Sc) : scOk (nrm s) = scOk s := by
  unfold scOk nrm
  dsimp only
  have h : (s.ins.map srtE).all epOk = s.ins.all epOk := by
    rw [List.all_map]
    congr 1
    funext l
    exact epOk_srt l
  rw [h, List.length_map]
theorem nrm_nrm (s : Sc) : nrm (nrm s) = nrm s := by
  have h : (s.ins.map srtE).map srtE = s.ins.map srtE := by
    rw [List.map_map]
    apply List.map_congr_left
    intro l _
    unfold srtE
    simp [srt_srt]
  unfold nrm
  dsimp only
  rw [h]
theorem canon_nrm {s : Sc} (h : scOk s = true) : Canon (nrm s) := by
  refine ⟨by rw [scOk_nrm]; exact h, fun l hl b hb => ?_⟩
  obtain ⟨l', _, rfl⟩ := List.mem_map.1 hl
  obtain ⟨b', _, rfl⟩ := List.mem_map.1 hb
  exact srt_srt b'
theorem dec_nrm {s : Sc} (h : scOk s = true) : decP (scL s) = (nrm s, true) := by
  rw [← scL_nrm]
  exact dec_put (canon_nrm h) (grL_lt (by rw [scOk_nrm]; exact h))
theorem nrm_sm {s : Sc} (h : ScSm s) : ScSm (nrm s) := by
  refine ⟨by unfold nrm; simpa using h.ins, fun l hl => ?_, h.acts, h.keeps⟩
  obtain ⟨l', hl', rfl⟩ := List.mem_map.1 hl
  refine ⟨by unfold srtE; simpa using (h.eps l' hl').1, fun b hb => ?_⟩
  obtain ⟨b', hb', rfl⟩ := List.mem_map.1 hb
  rw [Rec.srt_len]
  exact (h.eps l' hl').2 b' hb'
end Go.Ox.Sc
namespace Go.Proofs.YtpmpjjhchkoboaaGreatDoor
open Go.RowKit Go.Ox Go.Ox.Gr Go.Ox.Sc Go.ChangeShapes Go.WideShapes
theorem scL_short {s : Sc} (h : scOk s = true) (hb : scBig s = false) : (scL s).length ≤ 1000000 := by
  have := scL_len (c := 300) h fun l hl b hx => ((scBig_no hb).2.2.2.1 l hl).2 b hx
  omega
section
variable {H : Type} {enc : TypeId × Value → H} {W : World} {base : Nat} {sp : Nat → Bool} {held : Bool} {v u : Value} {d : DataW H} {p : List MemPlace} {r : Reach} {b0 N : Nat}
theorem prs26 {R : TypeId → Value → Prop} : ∀ (rows : List (List Value)), (∀ x ∈ rows, rowT R [.int .i64, .int .i64] x) → ∃ l : List (Int × Int), rows.length = l.length ∧ rows.flatten = pV l
  | [], _ => ⟨[], rfl, rfl⟩
  | r :: rows, h => by
    obtain ⟨l, h1, h2⟩ := prs26 rows fun x hx => h x (List.mem_cons_of_mem _ hx)
    obtain ⟨n, cs, rfl, _, hr⟩ := rowT_int (h r (List.mem_cons_self ..))
    obtain ⟨k, cs, rfl, _, hr⟩ := rowT_int hr
    obtain rfl := rowT_nil hr
    exact ⟨(n, k) :: l, by simp [h1], by rw [List.flatten_cons, h2]; rfl⟩
theorem bag_of_was (h : Was enc Tryz.prog W base sp held N 52 u) : ∃ l : Bag, RP W u l := by
  obtain ⟨rows, hr, -, hx⟩ := Was.rows (n := 8) (ks := [.int .i64, .int .i64]) Tryz.underlying52 (by kernel_rfl) (by kernel_rfl) (by decide) h
  obtain ⟨l, h1, h2⟩ := prs26 rows hx
  rw [h1, h2] at hr
  exact ⟨l, hr⟩
theorem ep_of_was (h : Was enc Tryz.prog W base sp held N 51 u) : ∃ l : List Bag, EpR W u l := by
  obtain ⟨rows, hr, -, hx⟩ := Was.rows (n := 8) (ks := [.cell 52]) Tryz.underlying51 (by kernel_rfl) (by kernel_rfl) (by decide) h
  have each : ∀ r ∈ rows, r.length = 1 ∧ ∃ x : Bag, (fun W r x => ∃ u, r = [u] ∧ RP W u x) W r x := fun r hr2 => by
    have hr := hx r hr2
    refine ⟨rowT_len hr, ?_⟩
    obtain ⟨u1, cs, rfl, hu1, hr⟩ := rowT_cell hr
    obtain rfl := rowT_nil hr
    obtain ⟨l, hl⟩ := bag_of_was hu1
    exact ⟨l, u1, rfl, hl⟩
  obtain ⟨l, hl⟩ := RS.of_rows (Q := fun W r x => ∃ u, r = [u] ∧ RP W u x) hr each
  exact ⟨l, RV.of_rs1 hl⟩
theorem ins_of_was (h : Was enc Tryz.prog W base sp held N 27 u) : ∃ l : List (List Bag), InsR W u l := by
  obtain ⟨rows, hr, -, hx⟩ := Was.rows (n := 8) (ks := [.cell 51]) Tryz.underlying27 (by kernel_rfl) (by kernel_rfl) (by decide) h
  have each : ∀ r ∈ rows, r.length = 1 ∧ ∃ x : List Bag, (fun W r x => ∃ u, r = [u] ∧ EpR W u x) W r x := fun r hr2 => by
    have hr := hx r hr2
    refine ⟨rowT_len hr, ?_⟩
    obtain ⟨u1, cs, rfl, hu1, hr⟩ := rowT_cell hr
    obtain rfl := rowT_nil hr
    obtain ⟨l, hl⟩ := ep_of_was hu1
    exact ⟨l, u1, rfl, hl⟩
  obtain ⟨l, hl⟩ := RS.of_rows (Q := fun W r x => ∃ u, r = [u] ∧ EpR W u x) hr each
  exact ⟨l, RV.of_rs1 hl⟩
theorem acts_of_was (h : Was enc Tryz.prog W base sp held N 28 u) : ∃ l : List Sc.Act, ActsR W u l := by
  obtain ⟨rows, hr, -, hx⟩ := Was.rows (n := 8) (ks := [.int .i64, .int .i64, .int .i64, .int .i64, .int .i64, .cell 45]) Tryz.underlying28 (by kernel_rfl) (by kernel_rfl) (by decide) h
  have each : ∀ r ∈ rows, r.length = 6 ∧ ∃ x : Sc.Act, ActQ W r x := fun r hr2 => by
    have hr := hx r hr2
    refine ⟨rowT_len hr, ?_⟩
    obtain ⟨k, cs, rfl, _, hr⟩ := rowT_int hr
    obtain ⟨n, cs, rfl, _, hr⟩ := rowT_int hr
    obtain ⟨a, cs, rfl, _, hr⟩ := rowT_int hr
    obtain ⟨b, cs, rfl, _, hr⟩ := rowT_int hr
    obtain ⟨t, cs, rfl, _, hr⟩ := rowT_int hr
    obtain ⟨u1, cs, rfl, hu1, hr⟩ := rowT_cell hr
    obtain rfl := rowT_nil hr
    obtain ⟨ks, hk⟩ := ints_of_was26 hu1
    exact ⟨((k, n, a, b, t), ks), u1, rfl, hk⟩
  obtain ⟨l, hl⟩ := RS.of_rows hr each
  exact ⟨l, hl⟩
abbrev ScArg := (Value × Value × Value × Nat) × Sc
theorem scriptArg (hv : Value.okWide Tryz.prog W r b0 30 v) (h : DataW.Trod enc Tryz.prog W base sp held 30 v d p) :
    ∃ x : ScArg, v = scAg x.2 x.1.1 x.1.2.1 x.1.2.2.1 ∧ ScR x.1.2.2.2 W x.1.1 x.1.2.1 x.1.2.2.1 x.2 := by
  obtain ⟨cs, N, rfl, hr⟩ := struct_of_trodT (n := 8) (ks := [.int .i64, .int .i64, .int .i64, .int .i64, .cell 24, .int .i64, .cell 27, .cell 28]) (by kernel_rfl) Tryz.underlying30 hv h
  obtain ⟨k0, cs, rfl, _, hr⟩ := rowT_int hr
  obtain ⟨k1, cs, rfl, _, hr⟩ := rowT_int hr
  obtain ⟨k2, cs, rfl, _, hr⟩ := rowT_int hr
  obtain ⟨k3, cs, rfl, _, hr⟩ := rowT_int hr
  obtain ⟨u1, cs, rfl, hu1, hr⟩ := rowT_cell hr
  obtain ⟨out, cs, rfl, _, hr⟩ := rowT_int hr
  obtain ⟨u2, cs, rfl, hu2, hr⟩ := rowT_cell hr
  obtain ⟨u3, cs, rfl, hu3, hr⟩ := rowT_cell hr
  obtain rfl := rowT_nil hr
  obtain ⟨ns, hn⟩ := nodes_of_was N u1 hu1
  obtain ⟨ins, hi⟩ := ins_of_was hu2
  obtain ⟨acts, ha⟩ := acts_of_was hu3
  exact ⟨((u1, u2, u3, N), ⟨(k0, k1, k2, k3), (ns, out), ins, acts⟩), rfl, hn, hi, ha⟩
end
end Go.Proofs.YtpmpjjhchkoboaaGreatDoor
