/-
  ScrSameR, packed: what the claim needs of them.
-/
import Derived.BigRegion
import Derived.Test.YtpmgmiiidfconaaGreatDoorPz41
import Derived.Test.YtpmgmiiidfconaaGreatDoorPz11
import Derived.Test.YtpmgmiiidfconaaGreatDoorPz18
import Derived.Test.YtpmgmiiidfconaaGreatDoorPz31
import Derived.Test.YtpmgmiiidfconaaGreatDoorPz06
import Derived.Test.YtpmgmiiidfconaaGreatDoorPz08
import Derived.Test.YtpmgmiiidfconaaGreatDoorPz10
namespace Go.Proofs.YtpmgmiiidfconaaGreatDoor
open Go.RowKit Go.Ox Go.Ox.Gr Go.Ox.Sc
set_option linter.unusedVariables false
set_option linter.unusedSimpArgs false
attribute [local irreducible] RE OE EpR InsR ActsR RP NodesR
set_option maxRecDepth 100000 in
set_option maxHeartbeats 4000000 in
theorem rSameInts_any (v u : Value) (l r : List Int) (w : World) (hv : RE w v l) (hu : RE w u r) (hl : l.length ≤ 1000000) :
    Calls Tryz.prog 39 #[v, u] w (EqP l r w) := by
  obtain ⟨A, c, rfl⟩ := hv.form
  obtain ⟨B, e, rfl⟩ := hu.form
  by_cases hlen : l.length = r.length
  case neg =>
    have hb : ((l.length : Int) != (r.length : Int)) = true := by simp; omega
    have HN := Lib.hid (show l ≠ r from fun q => hlen (by rw [q]))
    have HNO := Lib.hid (fun w' e h1 h2 => @EqP.no _ l r w w' e h1 h2)
    clear hv hu hlen
    go_enter Tryz.func39, Tryz.ntmps39
    go_wp2
    go_ret
    exact HNO.out _ _ HN.out rfl (Ext.refl _)
  have hb : ((l.length : Int) != (r.length : Int)) = false := by simp; omega
  have HV := Lib.hid hv
  have HU := Lib.hid hu
  have HLEN := Lib.hid hlen
  have HL := Lib.hid hl
  have HNO := Lib.hid (fun w' e h0 h1 h2 => @EqP.no _ l r w w' e h0 h1 h2)
  clear hv hu hlen hl
  go_enter Tryz.func39, Tryz.ntmps39
  go_wp2
  clear hb
  go_loopw [5] (fun iv wr => ∃ k : Nat, k ≤ l.length ∧ iv = .int .i64 (k : Int) ∧ l.take k = r.take k ∧ Ext w wr) (fun iv _ => l.length - (intOf iv).toNat)
  case atStart => exact ⟨0, Nat.zero_le _, rfl, rfl, Ext.refl _⟩
  case round =>
    obtain ⟨j, hj, rfl, hjt, hjx⟩ := hrel
    have HJT := Lib.hid hjt
    have HJX := Lib.hid hjx
    have hj40 : j ≤ 1000000 := by have := HL.out; omega
    clear hjt
    by_cases hjl : j < l.length
    · have r1 : (j : Int) < (l.length : Int) := by omega
      have r2 : (j : Int) < (r.length : Int) := by have := HLEN.out; omega
      have r0 : 0 ≤ (j : Int) := by omega
      have r1n : j < l.length := hjl
      have r2n : j < r.length := by have := HLEN.out; omega
      have HJL := Lib.hid hjl
      obtain ⟨bI, oI, rfl, i0⟩ := ri1 (RE.ext HV.out hjx) hjl
      obtain ⟨bJ, oJ, rfl, i1⟩ := ri1 (RE.ext HU.out hjx) r2n
      have HNJ := Lib.hid (fun h => at_ne hjl r2n h)
      have HTJ := Lib.hid (show l[j] = r[j] → l.take (j + 1) = r.take (j + 1) from fun h => by rw [List.take_succ_eq_append_getElem hjl, List.take_succ_eq_append_getElem r2n, HJT.out]; exact congrArg (fun z => r.take j ++ [z]) h)
      generalize l[j] = xi at *
      generalize r[j] = yi at *
      clear hjx hjl hj
      by_cases hij : xi = yi
      · have HTN := Lib.hid (HTJ.out hij)
        subst hij
        go_upto_region 6 with fail
        go_region
        go_wp2
        exact ⟨⟨j + 1, HJL.out, by go_num, HTN.out, HJX.out.drew⟩, by have := HJL.out; simp [intOf]; omega⟩
      · have HN := Lib.hid (HNJ.out hij)
        have hij2 : (xi != yi) = true := by simpa using hij
        go_upto_region 6 with fail
        go_region
        go_wp2
        go_ret
        exact HNO.out _ _ HN.out rfl HJX.out.drew
    · obtain rfl : j = l.length := by omega
      have r1 : ¬ (l.length : Int) < (l.length : Int) := by omega
      have HIN := Lib.hid (show l = r by have := HJT.out; rw [List.take_length, HLEN.out, List.take_length] at this; exact this)
      clear hjx hj hjl
      go_wp2
      go_ret
      exact EqP.yes HIN.out rfl HJX.out
theorem map_s {α β : Type} (f : α → β) {l r : List α} {k : Nat} (h1 : k < l.length) (h2 : k < r.length) (hp : (l.take k).map f = (r.take k).map f) (h : f l[k] = f r[k]) : (l.take (k + 1)).map f = (r.take (k + 1)).map f := by
  rw [List.take_succ_eq_append_getElem h1, List.take_succ_eq_append_getElem h2, List.map_append, List.map_append, hp]
  exact congrArg (fun z => (r.take k).map f ++ [z]) h
theorem map_ne {α β : Type} (f : α → β) {l r : List α} {k : Nat} (h1 : k < l.length) (h2 : k < r.length) (h : f l[k] ≠ f r[k]) : l.map f ≠ r.map f := fun q => h (by
  have h3 : (l.map f)[k]? = (r.map f)[k]? := by rw [q]
  rw [List.getElem?_map, List.getElem?_map, List.getElem?_eq_getElem h1, List.getElem?_eq_getElem h2, Option.map_some, Option.map_some] at h3
  exact Option.some.inj h3)
theorem map_all {α β : Type} (f : α → β) {l r : List α} (hl : l.length = r.length) (hp : (l.take l.length).map f = (r.take l.length).map f) : l.map f = r.map f := by
  rw [List.take_length, hl, List.take_length] at hp; exact hp
set_option maxRecDepth 100000 in
set_option maxHeartbeats 16000000 in
theorem rSame26_any (d d' : Nat) (s t : Sc) (nv iv av nv' iv' av' : Value) (w : World) (h : ScR d w nv iv av s) (h' : ScR d' w nv' iv' av' t) (hs : ScSm s) (ht : ScSm t) (hm : Sm 4 s.g.1) :
    Calls Tryz.prog 16 #[scAg s nv iv av, scAg t nv' iv' av'] w (EqP (nrm s) (nrm t) w) := by
  have HNO := Lib.hid (fun w' e (h1 : ¬ (s.cfg = t.cfg ∧ s.g = t.g ∧ s.ins.map srtE = t.ins.map srtE ∧ s.acts = t.acts)) h2 h3 => @EqP.no Sc (nrm s) (nrm t) w w' e (fun q => h1 (nrm_eq.1 q)) h2 h3)
  have HYES := Lib.hid (fun w' e (h1 : s.cfg = t.cfg ∧ s.g = t.g ∧ s.ins.map srtE = t.ins.map srtE ∧ s.acts = t.acts) h2 h3 => @EqP.yes Sc (nrm s) (nrm t) w w' e (nrm_eq.2 h1) h2 h3)
  generalize nrm s = rs at *
  generalize nrm t = rt at *
  obtain ⟨⟨k0, k1, k2, k3⟩, ⟨ns, out⟩, ins, acts⟩ := s
  obtain ⟨⟨j0, j1, j2, j3⟩, ⟨ns', out'⟩, ins', acts'⟩ := t
  obtain ⟨hn, hi, ha⟩ := h
  obtain ⟨hn', hi', ha'⟩ := h'
  obtain ⟨hs1, hs2, hs3, hs4⟩ := hs
  obtain ⟨ht1, ht2, ht3, ht4⟩ := ht
  dsimp only at *
  obtain ⟨P, hP⟩ : ∃ P : Prop, P = ((k0, k1, k2, k3) = (j0, j1, j2, j3) ∧ ((ns, out) : Gr.G) = (ns', out') ∧ ins.map srtE = ins'.map srtE ∧ acts = acts') := ⟨_, rfl⟩
  rw [← hP] at HNO HYES
  have HP1 := Lib.hid (show P → (k0, k1, k2, k3) = (j0, j1, j2, j3) from fun q => (hP ▸ q).1)
  have HP2 := Lib.hid (show P → ((ns, out) : Gr.G) = (ns', out') from fun q => (hP ▸ q).2.1)
  have HP3 := Lib.hid (show P → ins.map srtE = ins'.map srtE from fun q => (hP ▸ q).2.2.1)
  have HP4 := Lib.hid (show P → acts = acts' from fun q => (hP ▸ q).2.2.2)
  have HPP := Lib.hid (show (k0, k1, k2, k3) = (j0, j1, j2, j3) → ((ns, out) : Gr.G) = (ns', out') → ins.map srtE = ins'.map srtE → acts = acts' → P from fun a b c d => hP ▸ ⟨a, b, c, d⟩)
  clear hP
  have hal := (Ext.refl w).alloc (scCs (.int .i64 k0) (.int .i64 k1) (.int .i64 k2) (.int .i64 k3) nv out iv av)
  have HX := Lib.hid (hal.alloc (scCs (.int .i64 j0) (.int .i64 j1) (.int .i64 j2) (.int .i64 j3) nv' out' iv' av'))
  have HB := Lib.hid ((Bx8.new w 43 (.int .i64 k0) (.int .i64 k1) (.int .i64 k2) (.int .i64 k3) nv (.int .i64 out) iv av).ext ((Ext.refl _).alloc (scCs (.int .i64 j0) (.int .i64 j1) (.int .i64 j2) (.int .i64 j3) nv' out' iv' av')))
  have HC := Lib.hid (Bx8.new (w.alloc (scCs (.int .i64 k0) (.int .i64 k1) (.int .i64 k2) (.int .i64 k3) nv out iv av)) 43 (.int .i64 j0) (.int .i64 j1) (.int .i64 j2) (.int .i64 j3) nv' (.int .i64 out') iv' av')
  have hsz : (w.alloc (scCs (.int .i64 k0) (.int .i64 k1) (.int .i64 k2) (.int .i64 k3) nv out iv av)).heap.size = w.heap.size + 1 := by simp
  rw [hsz] at HC
  have HN := Lib.hid (And.intro (hn.ext HX.out) (hn'.ext HX.out))
  have HI := Lib.hid (And.intro (hi.ext HX.out) (hi'.ext HX.out))
  have HA := Lib.hid (And.intro (ha.ext HX.out) (ha'.ext HX.out))
  have HCG := Lib.hid (fun W (h1 : NodesR d W nv ns) (h2 : NodesR d' W nv' ns') => rSameG_any 4 d d' nv nv' ns ns' out out' W (Nat.le_refl _) hm h1 h2)
  have HS2 := Lib.hid (And.intro hs2 ht2)
  have HS4 := Lib.hid hs4
  have HS1 := Lib.hid (And.intro hs1 hs3)
  have heq := eqInC k0 k1 k2 k3 j0 j1 j2 j3
  have HGD := guardC
  have HT := Lib.hid (fun h => @cfgB_t (k0, k1, k2, k3) (j0, j1, j2, j3) h)
  have HFF := Lib.hid (fun h => @cfgB_f (k0, k1, k2, k3) (j0, j1, j2, j3) h)
  generalize cfgB (k0, k1, k2, k3) (j0, j1, j2, j3) = fb at *
  obtain ⟨AN, cN, rfl⟩ := hn.form
  obtain ⟨AI, cI, rfl⟩ := hi.form
  obtain ⟨AA, cA, rfl⟩ := ha.form
  obtain ⟨AN', cN', rfl⟩ := hn'.form
  obtain ⟨AI', cI', rfl⟩ := hi'.form
  obtain ⟨AA', cA', rfl⟩ := ha'.form
  clear hn hi ha hn' hi' ha' hs1 hs2 hs3 hs4 ht1 ht2 ht3 ht4 hal hsz hm
  go_enter Tryz.func16, Tryz.ntmps16
  go_upto_region 1 with fail
  generalize w.heap.size = p at *
  generalize (w.alloc (scCs (.int .i64 k0) (.int .i64 k1) (.int .i64 k2) (.int .i64 k3) (.slice AN ns.length cN) out (.slice AI ins.length cI) (.slice AA acts.length cA))).alloc (scCs (.int .i64 j0) (.int .i64 j1) (.int .i64 j2) (.int .i64 j3) (.slice AN' ns'.length cN') out' (.slice AI' ins'.length cI') (.slice AA' acts'.length cA')) = w0 at *
  obtain ⟨c0, c1, c2, c3, c4, c5, c6, c7⟩ := HB.out.at_
  obtain ⟨y0, y1, y2, y3, y4, y5, y6, y7⟩ := HC.out.at_
  by_cases hab : (k0, k1, k2, k3) = (j0, j1, j2, j3)
  case neg =>
    obtain rfl : fb = false := HFF.out hab
    have HN := Lib.hid (show ¬ P from fun q => hab (HP1.out q))
    clear hab
    go_wp2
    go_ret
    exact HNO.out _ _ HN.out rfl HX.out
  obtain rfl : fb = true := HT.out hab
  have HAB := Lib.hid hab
  clear hab
  go_wp2_with fail
  refine (HCG.out _ HN.out.1 HN.out.2).mono ?_
  rintro e w1 ⟨b1, rfl, hb1, he1⟩
  have HX1 := Lib.hid (HX.out.trans he1)
  have HE1 := Lib.hid he1
  have HB1 := Lib.hid (HB.out.ext he1)
  have HC1 := Lib.hid (HC.out.ext he1)
  have H1 := Lib.hid hb1
  clear he1 hb1 c0 c1 c2 c3 c4 c5 c6 c7 y0 y1 y2 y3 y4 y5 y6 y7 heq HGD
  obtain ⟨c0, c1, c2, c3, c4, c5, c6, c7⟩ := HB1.out.at_
  obtain ⟨y0, y1, y2, y3, y4, y5, y6, y7⟩ := HC1.out.at_
  cases b1 with
  | false =>
    have HN := Lib.hid (show ¬ P from fun q => by have := H1.out.2 (HP2.out q); cases this)
    go_wp2
    go_ret
    exact HNO.out _ _ HN.out rfl HX1.out
  | true =>
  have HGG := Lib.hid (H1.out.1 rfl)
  by_cases hil : ins.length = ins'.length
  case neg =>
    have hb : ((ins.length : Int) != (ins'.length : Int)) = true := by simp; omega
    have HN := Lib.hid (show ¬ P from fun q => hil (by have := congrArg List.length (HP3.out q); simpa using this))
    clear hil
    go_wp2
    go_ret
    exact HNO.out _ _ HN.out rfl HX1.out
  have hb : ((ins.length : Int) != (ins'.length : Int)) = false := by simp; omega
  have HIL := Lib.hid hil
  clear hil
  by_cases hal : acts.length = acts'.length
  case neg =>
    have hb2 : ((acts.length : Int) != (acts'.length : Int)) = true := by simp; omega
    have HN := Lib.hid (show ¬ P from fun q => hal (by rw [HP4.out q]))
    clear hal
    go_wp2
    go_ret
    exact HNO.out _ _ HN.out rfl HX1.out
  have hb2 : ((acts.length : Int) != (acts'.length : Int)) = false := by simp; omega
  have HAL := Lib.hid hal
  clear hal
  go_wp2
  clear hb hb2 c0 c1 c2 c3 c4 c5 c6 c7 y0 y1 y2 y3 y4 y5 y6 y7
  go_loopw [5] (fun iv wr => ∃ i : Nat, i ≤ ins.length ∧ iv = .int .i64 (i : Int) ∧ (ins.take i).map srtE = (ins'.take i).map srtE ∧ Ext w1 wr) (fun iv _ => ins.length - (intOf iv).toNat)
  case atStart => exact ⟨0, Nat.zero_le _, rfl, rfl, Ext.refl _⟩
  case round =>
    obtain ⟨i, hi, rfl, hp, hext⟩ := hrel
    have HP := Lib.hid hp
    have HE := Lib.hid hext
    have hi16 : i ≤ 1000000 := by have := HS1.out.1; omega
    obtain ⟨c0, c1, c2, c3, c4, c5, c6, c7⟩ := (HB1.out.ext hext).at_
    obtain ⟨y0, y1, y2, y3, y4, y5, y6, y7⟩ := (HC1.out.ext hext).at_
    clear hp
    by_cases hlt : i < ins.length
    · have q1 : (i : Int) < (ins.length : Int) := by omega
      have q0 : 0 ≤ (i : Int) := by omega
      have q1n : i < ins.length := hlt
      have q2n : i < ins'.length := by have := HIL.out; omega
      have q2 : (i : Int) < (ins'.length : Int) := by omega
      have HLT := Lib.hid (And.intro hlt q2n)
      obtain ⟨bI, oI, u0, rfl, z0, hu0⟩ := (InsR.ext HI.out.1 (HE1.out.trans hext)).at_ hlt
      obtain ⟨bJ, oJ, u1, rfl, z1, hu1⟩ := (InsR.ext HI.out.2 (HE1.out.trans hext)).at_ q2n
      have HST := Lib.hid (fun h => map_s srtE hlt q2n HP.out h)
      have HBAD := Lib.hid (show srtE ins[i] ≠ srtE ins'[i] → ¬ P from fun h q => map_ne srtE hlt q2n h (HP3.out q))
      have HLB := Lib.hid (HS2.out.1 _ (List.getElem_mem hlt))
      have HRB := Lib.hid (HS2.out.2 _ (List.getElem_mem q2n))
      generalize ins[i] = L at *
      generalize ins'[i] = R at *
      have HU0 := Lib.hid hu0
      have HU1 := Lib.hid hu1
      obtain ⟨AL, cL, rfl⟩ := hu0.form
      obtain ⟨AR, cR, rfl⟩ := hu1.form
      have HZ0 := Lib.hid z0
      have HZ1 := Lib.hid z1
      clear hu0 hu1 hlt hi hext
      by_cases hl4 : L.length = R.length
      case neg =>
        have hb : ((L.length : Int) != (R.length : Int)) = true := by simp; omega
        have HN := Lib.hid (HBAD.out (fun q => hl4 (by have := congrArg List.length q; simpa [srtE] using this)))
        clear hl4
        go_upto_region 6 with fail
        go_region
        go_wp2
        go_ret
        exact HNO.out _ _ HN.out rfl (HX1.out.trans HE.out).drew
      have hb : ((L.length : Int) != (R.length : Int)) = false := by simp; omega
      have HL4 := Lib.hid hl4
      clear hl4
      go_upto_region 6 with fail
      go_region
      go_wp2
      have HED := Lib.hid (Ext.refl wr).drew
      generalize wr.drew = wd at *
      clear hb q1 q0 q1n q2n q2 hi16 z0 z1 c0 c1 c2 c3 c4 c5 c6 c7 y0 y1 y2 y3 y4 y5 y6 y7
      go_loopw [6] (fun jv wq => ∃ k : Nat, k ≤ L.length ∧ jv = .int .i64 (k : Int) ∧ (L.take k).map Rec.srt = (R.take k).map Rec.srt ∧ Ext wr wq) (fun jv _ => L.length - (intOf jv).toNat)
      case atStart => exact ⟨0, Nat.zero_le _, rfl, rfl, HED.out⟩
      case round =>
        obtain ⟨k, hk, rfl, hp, hext⟩ := hrel
        have HPI := Lib.hid hp
        have HEQ := Lib.hid hext
        have HEW := Lib.hid (HE.out.trans hext)
        have hk4 : k ≤ 1000000 := by have := HLB.out.1; omega
        have hi16 : i ≤ 1000000 := by have := HS1.out.1; have := HLT.out.1; omega
        have q1 : (i : Int) < (ins.length : Int) := by have := HLT.out.1; omega
        have q0 : 0 ≤ (i : Int) := by omega
        have q1n : i < ins.length := HLT.out.1
        have q2n : i < ins'.length := HLT.out.2
        have q2 : (i : Int) < (ins'.length : Int) := by omega
        obtain ⟨x0, x1, x2, x3, x4, x5, c0, x7⟩ := (HB1.out.ext HEW.out).at_
        obtain ⟨y0, y1, y2, y3, y4, y5, c1, y7⟩ := (HC1.out.ext HEW.out).at_
        have c2 := hext.cell HZ0.out
        have c3 := hext.cell HZ1.out
        clear hp x0 x1 x2 x3 x4 x5 x7 y0 y1 y2 y3 y4 y5 y7
        by_cases hkl : k < L.length
        · have r1 : (k : Int) < (L.length : Int) := by omega
          have r0 : 0 ≤ (k : Int) := by omega
          have r1n : k < L.length := hkl
          have r2n : k < R.length := by have := HL4.out; omega
          have r2 : (k : Int) < (R.length : Int) := by omega
          have HKL := Lib.hid hkl
          obtain ⟨bE, oE, u3, rfl, c4, hu3⟩ := (EpR.ext HU0.out hext).at_ hkl
          obtain ⟨bF, oF, u4, rfl, c5, hu4⟩ := (EpR.ext HU1.out hext).at_ r2n
          have HS := Lib.hid (fun h => map_s Rec.srt hkl r2n HPI.out h)
          have HNB := Lib.hid (show Rec.srt L[k] ≠ Rec.srt R[k] → ¬ P from fun h => HBAD.out (fun q => map_ne Rec.srt hkl r2n h q))
          have HMY := Lib.hid (fun W (he : Ext wr W) => rsame_any u3 u4 L[k] R[k] W (RP.ext hu3 he) (RP.ext hu4 he) (HLB.out.2 _ (List.getElem_mem hkl)) (HRB.out.2 _ (List.getElem_mem r2n)))
          generalize L[k] = X at *
          generalize R[k] = Y at *
          generalize hdb : decide (Rec.srt X = Rec.srt Y) = db at *
          have HDT := Lib.hid (show db = true → Rec.srt X = Rec.srt Y from fun h => of_decide_eq_true (hdb.trans h))
          have HDF := Lib.hid (show db = false → Rec.srt X ≠ Rec.srt Y from fun h => of_decide_eq_false (hdb.trans h))
          clear hdb
          obtain ⟨AB, cB, rfl⟩ := hu3.form
          obtain ⟨AC, cC, rfl⟩ := hu4.form
          clear hu3 hu4 hkl hk hext
          go_upto_region 11 with fail
          go_cut [88] (fun s88 wx => s88 = .bool (!db) ∧ Ext wr wx)
          case first =>
            clear HNO HYES HP1 HP2 HP3 HP4 HPP HX HB HC HN HI HA HCG HS2 HS4 HS1 HT HFF HAB HX1 HE1 HB1 HC1 H1 HGG HIL HAL HP HE HST HBAD HLB HRB HU0 HU1 HZ0 HZ1 HL4 HED HPI HEQ HEW HS HNB HDT HDF
            refine yx ?_
            refine yl0 ?_
            refine yl6 c0 c1 c2 c3 c4 c5 ?_
            (refine wpY_move0 rfl rfl (by first | exact runs0 | exact runs1 rfl) Ext.refl rfl rfl rfl ?_; apply Exists.intro; refine ⟨?_, ?_⟩; · (go_simp; rfl))
            refine yl0 ?_
            refine yl6 c0 c1 c2 c3 c4 c5 ?_
            (refine wpY_move0 rfl rfl (by first | exact runs0 | exact runs1 rfl) Ext.refl rfl rfl rfl ?_; apply Exists.intro; refine ⟨?_, ?_⟩; · (go_simp; rfl))
            refine yl0 ?_
            refine yl6 c0 c1 c2 c3 c4 c5 ?_
            refine yl0 ?_
            refine yl6 c0 c1 c2 c3 c4 c5 ?_
            (refine wpY_move0 rfl rfl (by first | exact runs0 | exact runs1 rfl) Ext.refl rfl rfl rfl ?_; apply Exists.intro; refine ⟨?_, ?_⟩; · (go_simp; rfl))
            refine yl0 ?_
            refine yl6 c0 c1 c2 c3 c4 c5 ?_
            (refine wpY_move0 rfl rfl (by first | exact runs0 | exact runs1 rfl) Ext.refl rfl rfl rfl ?_; apply Exists.intro; refine ⟨?_, ?_⟩; · (go_simp; rfl))
            refine yl0 ?_
            refine yl6 c0 c1 c2 c3 c4 c5 ?_
            refine yc2 (.bool db) (fun w' hR => HMY.out w' hR) ?_
            refine yl0 ?_
            refine wpY_done ?_
            intro wz hx hS
            iterate 18 (rintro _ rfl)
            dsimp only [FinV]
            go_simp
            go_wp2
            go_meet
            exact ⟨rfl, hx⟩
          case rest =>
          obtain ⟨rfl, hx5⟩ := hcut
          rename World => w5
          have HXZ := Lib.hid hx5
          clear hx5 c0 c1 c2 c3 c4 c5
          cases db with
          | true =>
            have HTK := Lib.hid (HS.out (HDT.out rfl))
            go_wp2
            exact ⟨⟨k + 1, HKL.out, by go_num, HTK.out, HEQ.out.trans HXZ.out⟩, by have := HKL.out; simp [intOf]; omega⟩
          | false =>
            have HN := Lib.hid (HNB.out (HDF.out rfl))
            go_wp2
            go_ret
            exact HNO.out _ _ HN.out rfl ((HX1.out.trans HEW.out).trans HXZ.out)
        · obtain rfl : k = L.length := by omega
          have r1 : ¬ (L.length : Int) < (L.length : Int) := by omega
          have HTK := Lib.hid (HST.out (map_all Rec.srt HL4.out HPI.out))
          clear hk hkl hext
          go_wp2
          exact ⟨⟨i + 1, HLT.out.1, by go_num, HTK.out, HEW.out⟩, by have := HLT.out.1; simp [intOf]; omega⟩
    · obtain rfl : i = ins.length := by omega
      have q1 : ¬ (ins.length : Int) < (ins.length : Int) := by omega
      have HII := Lib.hid (map_all srtE HIL.out HP.out)
      have HX4 := Lib.hid (HX1.out.trans HE.out)
      have HE4 := Lib.hid (HE1.out.trans HE.out)
      have HB4 := Lib.hid (HB1.out.ext HE.out)
      have HC4 := Lib.hid (HC1.out.ext HE.out)
      clear hi hlt hext
      go_wp2
      clear c0 c1 c2 c3 c4 c5 c6 c7 q1 y0 y1 y2 y3 y4 y5 y6 y7
      go_loopw [7] (fun jv wq => ∃ k : Nat, k ≤ acts.length ∧ jv = .int .i64 (k : Int) ∧ acts.take k = acts'.take k ∧ Ext wr wq) (fun jv _ => acts.length - (intOf jv).toNat)
      case atStart => exact ⟨0, Nat.zero_le _, rfl, rfl, Ext.refl _⟩
      case round =>
        obtain ⟨k, hk, rfl, hp, hext⟩ := hrel
        have HPI := Lib.hid hp
        have HEQ := Lib.hid hext
        have hk256 : k ≤ 1000000 := by have := HS1.out.2; omega
        obtain ⟨c0, c1, c2, c3, c4, c5, c6, c7⟩ := (HB4.out.ext hext).at_
        obtain ⟨y0, y1, y2, y3, y4, y5, y6, y7⟩ := (HC4.out.ext hext).at_
        clear hp
        by_cases hkl : k < acts.length
        · have r1 : (k : Int) < (acts.length : Int) := by omega
          have r0 : 0 ≤ (k : Int) := by omega
          have r1n : k < acts.length := hkl
          have r2n : k < acts'.length := by have := HAL.out; omega
          have r2 : (k : Int) < (acts'.length : Int) := by omega
          have HKL := Lib.hid hkl
          obtain ⟨bA, oA, u3, rfl, z0, z1, z2, z3, z4, z5, hu3⟩ := (ActsR.ext HA.out.1 (HE4.out.trans hext)).at_ hkl
          obtain ⟨bB, oB, u4, rfl, g0, g1, g2, g3, g4, g5, hu4⟩ := (ActsR.ext HA.out.2 (HE4.out.trans hext)).at_ r2n
          have HNE := Lib.hid (show acts[k] ≠ acts'[k] → ¬ P from fun h q => at_ne hkl r2n h (HP4.out q))
          have HEQA := Lib.hid (show acts[k] = acts'[k] → acts.take (k + 1) = acts'.take (k + 1) from fun h => by rw [List.take_succ_eq_append_getElem hkl, List.take_succ_eq_append_getElem r2n, HPI.out]; exact congrArg (fun z => acts'.take k ++ [z]) h)
          have HK4 := Lib.hid (HS4.out _ (List.getElem_mem hkl))
          generalize acts[k] = x at *
          generalize acts'[k] = y at *
          obtain ⟨⟨k1', n1, a1, b1, t1⟩, ks1⟩ := x
          obtain ⟨⟨k2', n2, a2, b2, t2⟩, ks2⟩ := y
          dsimp only at z0 z1 z2 z3 z4 z5 g0 g1 g2 g3 g4 g5 hu3 hu4
          have HU3 := Lib.hid hu3
          have HU4 := Lib.hid hu4
          obtain ⟨Ax, cx, rfl⟩ := hu3.form
          obtain ⟨Ay, cy, rfl⟩ := hu4.form
          have hA := World.block_lt_of_cell? wr _ z0
          have hB := World.block_lt_of_cell? wr _ g0
          have hp0 := World.block_lt_of_cell? wr _ c0
          have hp1 := World.block_lt_of_cell? wr _ y0
          simp only at hA hB hp0 hp1
          have hA1 : ¬ bA = wr.heap.size := by omega
          have hB1 : ¬ bB = wr.heap.size := by omega
          have hA2 : ¬ bA = wr.heap.size + 1 := by omega
          have hB2 : ¬ bB = wr.heap.size + 1 := by omega
          have hp2 : ¬ p = wr.heap.size := by omega
          have hp3 : ¬ p + 1 = wr.heap.size := by omega
          have hp4 : ¬ p = wr.heap.size + 1 := by omega
          have hp5 : ¬ p + 1 = wr.heap.size + 1 := by omega
          clear hu3 hu4 hkl hk hext
          go_upto_region 16 with fail
          go_cut [8, 9] (fun s6 s7 wx => ∃ n6 n7, s6 = .pointer (some ⟨n6, 0, none⟩) ∧ s7 = .pointer (some ⟨n7, 0, none⟩) ∧ Bx6 wx n6 24 (.int .i64 k1') (.int .i64 n1) (.int .i64 a1) (.int .i64 b1) (.int .i64 t1) (.slice Ax ks1.length cx) ∧ Bx6 wx n7 24 (.int .i64 k2') (.int .i64 n2) (.int .i64 a2) (.int .i64 b2) (.int .i64 t2) (.slice Ay ks2.length cy) ∧ Ext wr wx)
          case first =>
            have HI1 := Lib.hid (bx6_two wr 24 (.int .i64 k1') (.int .i64 n1) (.int .i64 a1) (.int .i64 b1) (.int .i64 t1) (.slice Ax ks1.length cx) (.int .i64 k2') (.int .i64 n2) (.int .i64 a2) (.int .i64 b2) (.int .i64 t2) (.slice Ay ks2.length cy))
            have HI2 := Lib.hid (bx6_two wr 24 (.int .i64 k2') (.int .i64 n2) (.int .i64 a2) (.int .i64 b2) (.int .i64 t2) (.slice Ay ks2.length cy) (.int .i64 k1') (.int .i64 n1) (.int .i64 a1) (.int .i64 b1) (.int .i64 t1) (.slice Ax ks1.length cx))
            clear HNO HYES HP1 HP2 HP3 HP4 HPP HX HB HC HN HI HA HCG HS2 HS4 HS1 HT HFF HAB HX1 HE1 HB1 HC1 H1 HGG HIL HAL HP HE HII HX4 HE4 HB4 HC4 HPI HEQ HKL HNE HEQA HK4 HU3 HU4
            go_region
            all_goals go_wp2
            all_goals go_meet
            · exact ⟨_, _, rfl, rfl, HI1.out.1, HI1.out.2.1, HI1.out.2.2⟩
            · exact ⟨_, _, rfl, rfl, HI2.out.2.1, HI2.out.1, HI2.out.2.2⟩
          case rest =>
          obtain ⟨n6, n7, rfl, rfl, hb6, hb7, hx3⟩ := hcut
          rename World => w3
          have HB6 := Lib.hid hb6
          have HB7 := Lib.hid hb7
          have HX3 := Lib.hid hx3
          clear hb6 hb7 hx3 z0 z1 z2 z3 z4 z5 g0 g1 g2 g3 g4 g5 hA hB hA1 hB1 hA2 hB2 hp0 hp1 hp2 hp3 hp4 hp5 c0 c1 c2 c3 c4 c5 c6 c7 y0 y1 y2 y3 y4 y5 y6 y7
          obtain ⟨x0, x1, x2, x3, x4, x5⟩ := HB6.out.at_
          obtain ⟨y0, y1, y2, y3, y4, y5⟩ := HB7.out.at_
          have HX5 := Lib.hid ((HX4.out.trans HEQ.out).trans HX3.out)
          by_cases h1 : k1' = k2'
          case neg =>
            have HN := Lib.hid (HNE.out (fun e => h1 (congrArg (fun a : Sc.Act => a.1.1) e)))
            have hb : (k1' != k2') = true := by simpa using h1
            clear h1
            go_wp2_with fail
            go_ret
            exact HNO.out _ _ HN.out rfl HX5.out
          subst h1
          by_cases h1 : n1 = n2
          case neg =>
            have HN := Lib.hid (HNE.out (fun e => h1 (congrArg (fun a : Sc.Act => a.1.2.1) e)))
            have hb : (n1 != n2) = true := by simpa using h1
            clear h1
            go_wp2_with fail
            go_ret
            exact HNO.out _ _ HN.out rfl HX5.out
          subst h1
          by_cases h1 : a1 = a2
          case neg =>
            have HN := Lib.hid (HNE.out (fun e => h1 (congrArg (fun a : Sc.Act => a.1.2.2.1) e)))
            have hb : (a1 != a2) = true := by simpa using h1
            clear h1
            go_wp2_with fail
            go_ret
            exact HNO.out _ _ HN.out rfl HX5.out
          subst h1
          by_cases h1 : b1 = b2
          case neg =>
            have HN := Lib.hid (HNE.out (fun e => h1 (congrArg (fun a : Sc.Act => a.1.2.2.2.1) e)))
            have hb : (b1 != b2) = true := by simpa using h1
            clear h1
            go_wp2_with fail
            go_ret
            exact HNO.out _ _ HN.out rfl HX5.out
          subst h1
          by_cases h1 : t1 = t2
          case neg =>
            have HN := Lib.hid (HNE.out (fun e => h1 (congrArg (fun a : Sc.Act => a.1.2.2.2.2) e)))
            have hb : (t1 != t2) = true := by simpa using h1
            clear h1
            go_wp2_with fail
            go_ret
            exact HNO.out _ _ HN.out rfl HX5.out
          subst h1
          go_wp2_with fail
          refine (rSameInts_any _ _ ks1 ks2 w3 (RE.ext HU3.out HX3.out) (RE.ext HU4.out HX3.out) HK4.out).mono ?_
          rintro e w4 ⟨b, rfl, hbb, he4⟩
          have HX6 := Lib.hid (HX5.out.trans he4)
          have HE6 := Lib.hid ((HEQ.out.trans HX3.out).trans he4)
          have HBB := Lib.hid hbb
          clear hbb he4
          cases b with
          | false =>
            have HN := Lib.hid (HNE.out (fun e => by have := HBB.out.2 (congrArg Prod.snd e); cases this))
            go_wp2_with fail
            go_ret
            exact HNO.out _ _ HN.out rfl HX6.out
          | true =>
            have HTK := Lib.hid (HEQA.out (by rw [HBB.out.1 rfl]))
            go_wp2_with fail
            exact ⟨⟨k + 1, HKL.out, by go_num, HTK.out, HE6.out⟩, by have := HKL.out; simp [intOf]; omega⟩
        · obtain rfl : k = acts.length := by omega
          have r1 : ¬ (acts.length : Int) < (acts.length : Int) := by omega
          have HAA := Lib.hid (show acts = acts' by have := HPI.out; rw [List.take_length, HAL.out, List.take_length] at this; exact this)
          have HPY := Lib.hid (HPP.out HAB.out HGG.out HII.out HAA.out)
          clear hk hkl hext
          go_wp2
          go_ret
          exact HYES.out _ _ HPY.out rfl (HX4.out.trans HEQ.out)
end Go.Proofs.YtpmgmiiidfconaaGreatDoor
