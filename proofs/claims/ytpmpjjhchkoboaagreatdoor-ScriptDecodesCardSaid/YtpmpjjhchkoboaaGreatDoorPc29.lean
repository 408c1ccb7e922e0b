/-
  RecDec, ScrGet, ScrRow, packed: what the claim needs of them.
-/
import Derived.Test.YtpmpjjhchkoboaaGreatDoorPc27
import Derived.Test.YtpmpjjhchkoboaaGreatDoorPc28
import Derived.Test.YtpmpjjhchkoboaaGreatDoorPc05
import Derived.Test.YtpmpjjhchkoboaaGreatDoorPc13
import Derived.Test.YtpmpjjhchkoboaaGreatDoorPc24
import Derived.Test.YtpmpjjhchkoboaaGreatDoorPc19
open Go.Lib (hid)
set_option linter.unusedSimpArgs false
set_option linter.unusedVariables false
set_option maxRecDepth 100000
namespace Go.Proofs.YtpmpjjhchkoboaaGreatDoor
open Go.RowKit Go.Ox Go.Shelf
open Go.Ox.Rec (readM readS readE readV)
attribute [local irreducible] OP RP
structure DecI (K : Nat → Prop) (T : TypeId) (w1 : World) (g : Nat) (t : Num.St) (k : Nat) (o : Value) (w : World) : Prop where
 nr : Rdr K T w g (Rec.stI t k).l (Rec.stI t k).bad
 own : OP 55 w1.heap.size w o (Rec.outI t k)
 ext : ExtQ (fun j => j = g) w1 w
 bd : g < w1.heap.size ∧ ∀ b, K b → b < w1.heap.size
section
variable {K : Nat → Prop} {T : TypeId} {w1 : World} {g : Nat} {t : Num.St} {k : Nat} {o o' : Value} {w w2 w3 w4 : World}
theorem DecI.hK (h : DecI K T w1 g t k o w) : ∀ b, K b → b < w.heap.size := fun b hb => Nat.lt_of_lt_of_le (h.bd.2 b hb) h.ext.size
theorem DecI.high (h : DecI K T w1 g t k o w) {j : Nat} (hj : o.ownBlock = some j) : w1.heap.size ≤ j := ((OP.own h.own).lt j hj).1
theorem DecI.own2 (h : DecI K T w1 g t k o w) (he : ExtG g w w2) : OP 55 w1.heap.size w2 o (Rec.outI t k) :=
 OP.extQ h.own (ExtQ.extG (Q := fun j => j = g) he rfl) fun j hj e => by have := h.high hj; have := h.bd.1; omega
theorem DecI.step (h : DecI K T w1 g t k o w) (he2 : ExtG g w w2) (hr2 : Rdr K T w2 g (Rec.stI t (k + 1)).l (Rec.stI t (k + 1)).bad) (he3 : Ext w2 w3) (ha : w3.grownBy w4 o.ownBlock) (ho : OP 55 w1.heap.size w4 o' (Rec.outI t (k + 1))) : DecI K T w1 g t (k + 1) o' w4 := by
 refine ⟨(hr2.ext he3).grown ha fun j hj => ?_, ho, ?_, h.bd⟩
 · have h1 := h.high hj
   exact ⟨fun hk => by have := h.bd.2 j hk; omega, by have := h.bd.1; omega⟩
 · have e1 := (h.ext.trans (ExtQ.extG (Q := fun j => j = g) he2 rfl)).trans (ExtQ.of he3)
   exact ((e1.mono (Q' := fun j => j = g ∨ o.ownBlock = some j) (fun j q => .inl q)).trans (ExtQ.grown ha fun j q => .inr q)).mono' fun j hl q => by
    rcases q with q | q
    · exact q
    · have := h.high q; omega
theorem DecI.out (h : DecI K T w1 g t k o w) (he2 : ExtG g w w2) : ExtQ (fun j => j = g) w1 w2 := h.ext.trans (ExtQ.extG (Q := fun j => j = g) he2 rfl)
end
set_option maxHeartbeats 4000000 in
theorem dec_any (v : Value) (b : List UInt8) (w : World) (hv : RB w v b) (hl : b.length ≤ 1000000) :
 Calls Tryz.prog 134 #[v] w fun e w' => ∃ u, e = .returned (.tuple #[u, .int .i64 (Rec.decE b)]) ∧ OP 55 w.heap.size w' u (Rec.decL b) ∧ Ext w w' := by
 have HF := hid (from_any v b w hv hl)
 have HBAD := hid (fun t n h hb => @Rec.dec_bad b t n h hb)
 have HPART := hid (fun t n k h hk he => @Rec.dec_part b t n k h hk he)
 have HREST := hid (fun t n h he => @Rec.dec_rest b t n h he)
 have HDONE := hid (fun t n h hb hn hk he ha => @Rec.dec_done b t n h hb hn hk he ha)
 have HN := hid (fun K g w (h : NR K w g ⟨b, false⟩) => num_any g ⟨b, false⟩ w h hl)
 have hnl := Num.numP_len ⟨b, false⟩
 obtain ⟨A, c, rfl⟩ := RB.form hv
 clear hv
 generalize hq : Num.numP ⟨b, false⟩ = tn at *
 obtain ⟨t, n⟩ := tn
 simp only at hnl HN
 have HBAD := hid (HBAD.out t n rfl)
 have HPART := hid (fun k => HPART.out t n k rfl)
 have HREST := hid (HREST.out t n rfl)
 have HDONE := hid (HDONE.out t n rfl)
 have HTL := hid (show t.l.length ≤ 1000000 by omega)
 generalize Rec.decE b = dE at *
 generalize Rec.decL b = dL at *
 clear hnl hl hq
 go_enter Tryz.func134, Tryz.ntmps134
 go_wp2_with fail
 refine HF.out.mono ?_
 rintro e w1 ⟨g, rfl, hr1, he1, hg1⟩
 have HR1 := hid hr1
 have HX1 := hid he1
 have HG1 := hid hg1
 clear hr1 he1 hg1 HF
 go_wp2_with fail
 refine (HN.out _ g w1 HR1.out).mono ?_
 rintro e w2 ⟨rfl, hr2, he2⟩
 have HR2 := hid hr2
 have HX2 := hid he2
 have HB2 := hid (bad_any g t w2 hr2)
 have HGW := hid (show g < w1.heap.size from HR1.out.lt)
 clear hr2 he2 HN
 by_cases hb : t.bad = true
 · have HE := hid (HBAD.out (.inl hb))
   rw [hb] at HB2
   clear hb
   go_wp2_with fail
   refine HB2.out.mono ?_
   rintro e w3 ⟨rfl, rfl⟩
   go_wp2
   go_ret2
   rw [HE.out.1, HE.out.2]
   exact ⟨_, rfl, OP.nilS _ _ _, HX1.out.andG HX2.out HG1.out⟩
 have hb : t.bad = false := by cases h : t.bad with | true => exact absurd h hb | false => rfl
 rw [hb] at HB2
 have HTB := hid hb
 clear hb
 by_cases hn : 4096 < n
 · have HE := hid (HBAD.out (.inr hn))
   have g1 : (4096 : Int) < (n : Int) := by omega
   clear hn
   go_wp2_with fail
   refine HB2.out.mono ?_
   rintro e w3 ⟨rfl, rfl⟩
   go_wp2
   go_ret2
   rw [HE.out.1, HE.out.2]
   exact ⟨_, rfl, OP.nilS _ _ _, HX1.out.andG HX2.out HG1.out⟩
 have g1 : ¬ (4096 : Int) < (n : Int) := by omega
 have HN2 := hid (show n ≤ 4096 by omega)
 clear hn
 go_wp2_with fail
 refine HB2.out.mono ?_
 rintro e w3 ⟨rfl, rfl⟩
 go_wp2
 go_loopw [6, 20] (fun o iv wr => ∃ k : Nat, k ≤ n ∧ iv = .int .i64 (k : Int) ∧ Rec.OkI t k ∧ DecI (fun j => j < w1.heap.size) 136 w1 g t k o wr) (fun _ iv _ => n - (intOf iv).toNat)
 case atStart => exact ⟨0, Nat.zero_le _, rfl, fun i hi => absurd hi (Nat.not_lt_zero _), ⟨HR2.out, OP.nilS _ _ _, ExtQ.extG (Q := fun j => j = g) HX2.out rfl, HGW.out, fun b hb => hb⟩⟩
 case round =>
  obtain ⟨k, hk, rfl, hok, hI⟩ := hrel
  rename World => wA
  have HI := hid hI
  have HOK := hid hok
  obtain ⟨AO, cO, rfl⟩ := hI.own.rp.form
  have hol := Rec.outI_len t k
  have hn9 := HN2.out
  clear hI hok
  by_cases hlt : k < n
  · have g2 : (k : Int) < (n : Int) := by omega
    have HLT := hid hlt
    have HOUT := hid (show (Rec.outI t k).length ≤ 1000000 by omega)
    have HRD := hid (mread_any g (Rec.stI t k) wA HI.out.nr (Nat.le_trans (Rec.stI_len t k) HTL.out) HI.out.hK)
    have HP2 := hid (HPART.out k hlt)
    have HSN := hid (show readE (Rec.stI t k) = 0 → Rec.OkI t (k + 1) from fun h => HOK.out.snoc h)
    have HST := hid (fun (w2 w3 w4 : World) (o' : Value) he2 hr2 he3 ha ho => HI.out.step (w2 := w2) (w3 := w3) (w4 := w4) (o' := o') he2 hr2 he3 ha ho)
    have HOS := hid (show Rec.outI t (k + 1) = Rec.outI t k ++ [readV (Rec.stI t k)] from rfl)
    have HSS := hid (show Rec.stI t (k + 1) = readS (Rec.stI t k) from rfl)
    rw [HOS.out, HSS.out] at HST
    unfold ReadPost at HRD
    generalize readV (Rec.stI t k) = x at *
    generalize readE (Rec.stI t k) = re at *
    obtain ⟨x1, x2⟩ := x
    clear hlt hk HOS HSS
    go_wp2_with fail
    refine HRD.out.mono ?_
    rintro e w4 ⟨rfl, hx4⟩
    have HX4 := hid hx4
    clear hx4
    by_cases hre : re = 0
    · subst hre
      have HOK2 := hid (HSN.out rfl)
      clear hol
      go_upto_region 11 with fail
      have HG5 := hid ((Ext.refl w4).alloc (.cells #[.int .i64 x1, .int .i64 x2] 55))
      have c0 := (Blk.new w4 55 #[.int .i64 x1, .int .i64 x2]).cell 0
      have c1 := (Blk.new w4 55 #[.int .i64 x1, .int .i64 x2]).cell 1
      have c0 : (w4.alloc (.cells #[.int .i64 x1, .int .i64 x2] 55)).cell? ⟨w4.heap.size, 0, none⟩ = some (.int .i64 x1) := c0
      have c1 : (w4.alloc (.cells #[.int .i64 x1, .int .i64 x2] 55)).cell? ⟨w4.heap.size, 1, none⟩ = some (.int .i64 x2) := c1
      have HSZ := hid (show w1.heap.size ≤ (w4.alloc (.cells #[.int .i64 x1, .int .i64 x2] 55)).heap.size from Nat.le_trans (Nat.le_trans HI.out.ext.size HX4.out.extG.size) HG5.out.size)
      have HOL := hid ((HI.out.own2 HX4.out.extG).ext HG5.out)
      generalize w4.heap.size = q at *
      generalize w4.alloc (.cells #[.int .i64 x1, .int .i64 x2] 55) = w5 at *
      have HXL := hid ((Ext.refl w5).alloc (.cells #[.int .i64 x1, .int .i64 x2] 55))
      have HLIT := hid (RP.lit w5 #[.int .i64 x1, .int .i64 x2] 55 1 [(x1, x2)] rfl (by omega) rfl)
      go_wp2_with (at_builtin; refine wpList_app rfl elemM _ _ _ rfl w1.heap.size _ (Rec.outI t k).length _ rfl (HOL.out.ext HXL.out).own _ 1 _ rfl HLIT.out.rd (one_pV _) (by have := HOUT.out; omega) (by have := HOUT.out; unfold maxLen; omega) (by have := HSZ.out; simp; omega) ?_; intro v7 w7 ha)
      exact ⟨⟨k + 1, HLT.out, by go_num, HOK2.out, HST.out w4 _ w7 v7 HX4.out.extG HX4.out.rdr (HG5.out.trans HXL.out) ha.grown (OP.app ha.own)⟩, by have := HLT.out; simp [intOf]; omega⟩
    · have HE := hid (HP2.out hre)
      have hne : (re != 0) = true := by simpa using hre
      clear hre
      go_wp2
      go_ret2
      rw [HE.out.1, HE.out.2]
      exact ⟨_, rfl, OP.nilS _ _ _, (HX1.out.andQ (HI.out.out HX4.out.extG) (fun j hj => by have := HG1.out; omega)).alloc _⟩
  · obtain rfl : k = n := by omega
    have g2 : ¬ (k : Int) < (k : Int) := by omega
    have hbk : (Rec.stI t k).bad = false := HOK.out.good HTB.out
    have HDN := hid (done_any g (Rec.stI t k) wA HI.out.nr)
    rw [hbk] at HDN
    have HR3 := hid HREST.out
    have HD3 := hid (HDONE.out HTB.out HN2.out HOK.out)
    have HRP := hid HI.out.own.rp
    have HSRT := hid (recSorted_any _ _ wA HI.out.own.rp (by omega))
    have HOO := hid HI.out.own
    have HFIN := hid (HX1.out.andQ HI.out.ext (fun j hj => by have := HG1.out; omega))
    have HSZ := hid (show w.heap.size ≤ w1.heap.size from HX1.out.size)
    generalize (Rec.stI t k).l = rest at *
    generalize Rec.outI t k = out at *
    clear hk hol hbk hn9
    by_cases hr : rest = []
    · have HD4 := hid (fun ha => HD3.out hr ha)
      subst hr
      rw [if_neg (by simp)] at HDN
      go_wp2_with fail
      refine HDN.out.mono ?_
      rintro e w5 ⟨rfl, rfl⟩
      go_wp2_with fail
      refine HSRT.out.mono ?_
      rintro e w6 ⟨q, rfl, hq, he6⟩
      have HX6 := hid he6
      cases q with
      | true =>
       have HE := hid (HD4.out (hq.1 rfl))
       clear hq he6
       go_wp2
       go_ret2
       rw [HE.out.1, HE.out.2]
       exact ⟨_, rfl, (HOO.out.ext HX6.out).low HSZ.out, HFIN.out.trans HX6.out⟩
      | false =>
       have HE := hid (HR3.out (.inr fun h => by have := hq.2 h; cases this))
       clear hq he6
       go_wp2
       go_ret2
       rw [HE.out.1, HE.out.2]
       exact ⟨_, rfl, OP.nilS _ _ _, HFIN.out.trans HX6.out⟩
    · rw [if_pos (.inr hr)] at HDN
      have HE := hid (HR3.out (.inl hr))
      clear hr
      go_wp2_with fail
      refine HDN.out.mono ?_
      rintro e w5 ⟨rfl, rfl⟩
      go_wp2
      go_ret2
      rw [HE.out.1, HE.out.2]
      exact ⟨_, rfl, OP.nilS _ _ _, HFIN.out⟩
set_option maxHeartbeats 4000000 in
theorem rdec_any (v : Value) (b : List UInt8) (w : World) (hv : RB w v b) (hl : b.length ≤ 1000000) :
 Calls Tryz.prog 66 #[v] w fun e w' => ∃ u, e = .returned (.tuple #[u, .bool (Rec.decE b == 0)]) ∧ OP 55 w.heap.size w' u (Rec.decL b) ∧ Ext w w' := by
 have HBAD := hid (fun t n h hb => @Rec.dec_bad b t n h hb)
 have HPART := hid (fun t n k h hk he => @Rec.dec_part b t n k h hk he)
 have HREST := hid (fun t n h he => @Rec.dec_rest b t n h he)
 have HDONE := hid (fun t n h hb hn hk he ha => @Rec.dec_done b t n h hb hn hk he ha)
 have HN := hid (fun K g w (h : RR K w g ⟨b, false⟩) => rnum_any g ⟨b, false⟩ w h hl)
 have hnl := Num.numP_len ⟨b, false⟩
 obtain ⟨A, c, rfl⟩ := RB.form hv
 have HV := hid hv
 clear hv
 generalize hq : Num.numP ⟨b, false⟩ = tn at *
 obtain ⟨t, n⟩ := tn
 simp only at hnl HN
 have HBAD := hid (HBAD.out t n rfl)
 have HPART := hid (fun k => HPART.out t n k rfl)
 have HREST := hid (HREST.out t n rfl)
 have HDONE := hid (HDONE.out t n rfl)
 have HTL := hid (show t.l.length ≤ 1000000 by omega)
 generalize Rec.decE b = dE at *
 generalize Rec.decL b = dL at *
 clear hnl hl hq
 go_enter Tryz.func66, Tryz.ntmps66
 obtain ⟨g, hg⟩ : ∃ g, w.heap.size = g := ⟨_, rfl⟩
 have hr1 : RR (fun j => j < (w.alloc (.cells #[.slice A b.length c, .bool false] 100)).heap.size) (w.alloc (.cells #[.slice A b.length c, .bool false] 100)) w.heap.size ⟨b, false⟩ := (Rdr.new HV.out _ _).weak (fun b hb => by simp; omega)
 go_upto_region 2 with fail
 rw [hg] at hr1
 try rw [hg]
 have HX1 := hid ((Ext.refl w).alloc (.cells #[.slice A b.length c, .bool false] 100))
 have HG1 := hid (Nat.le_of_eq hg)
 generalize w.alloc (.cells #[.slice A b.length c, .bool false] 100) = w1 at *
 have HR1 := hid hr1
 clear hr1 hg
 go_wp2_with fail
 refine (HN.out _ g w1 HR1.out).mono ?_
 rintro e w2 ⟨rfl, hr2, he2⟩
 have HR2 := hid hr2
 have HX2 := hid he2
 obtain ⟨m0, m1, m2⟩ := Rdr.mark hr2
 have HGW := hid (show g < w1.heap.size from HR1.out.lt)
 clear hr2 he2 HN
 by_cases hb : t.bad = true
 · have HE := hid (HBAD.out (.inl hb))
   rw [hb] at m0
   clear hb
   go_wp2
   go_ret2
   rw [HE.out.1, HE.out.2]
   exact ⟨_, rfl, OP.nilS _ _ _, HX1.out.andG HX2.out HG1.out⟩
 have hb : t.bad = false := by cases h : t.bad with | true => exact absurd h hb | false => rfl
 rw [hb] at m0
 have HTB := hid hb
 clear hb
 by_cases hn : 4096 < n
 · have HE := hid (HBAD.out (.inr hn))
   have g1 : (4096 : Int) < (n : Int) := by omega
   clear hn
   go_wp2
   go_ret2
   rw [HE.out.1, HE.out.2]
   exact ⟨_, rfl, OP.nilS _ _ _, HX1.out.andG HX2.out HG1.out⟩
 have g1 : ¬ (4096 : Int) < (n : Int) := by omega
 have HN2 := hid (show n ≤ 4096 by omega)
 clear hn
 go_wp2
 clear m0 m1 m2
 go_loopw [6, 7] (fun o iv wr => ∃ k : Nat, k ≤ n ∧ iv = .int .i64 (k : Int) ∧ Rec.OkI t k ∧ DecI (fun j => j < w1.heap.size) 100 w1 g t k o wr) (fun _ iv _ => n - (intOf iv).toNat)
 case atStart => exact ⟨0, Nat.zero_le _, rfl, fun i hi => absurd hi (Nat.not_lt_zero _), ⟨HR2.out, OP.nilS _ _ _, ExtQ.extG (Q := fun j => j = g) HX2.out rfl, HGW.out, fun b hb => hb⟩⟩
 case round =>
  obtain ⟨k, hk, rfl, hok, hI⟩ := hrel
  rename World => wA
  have HI := hid hI
  have HOK := hid hok
  obtain ⟨AO, cO, rfl⟩ := hI.own.rp.form
  have hol := Rec.outI_len t k
  have hn9 := HN2.out
  clear hI hok
  by_cases hlt : k < n
  · have g2 : (k : Int) < (n : Int) := by omega
    have HLT := hid hlt
    have HOUT := hid (show (Rec.outI t k).length ≤ 1000000 by omega)
    have HRD := hid (rread_any g (Rec.stI t k) wA HI.out.nr (Nat.le_trans (Rec.stI_len t k) HTL.out) HI.out.hK)
    have HP2 := hid (HPART.out k hlt)
    have HSN := hid (show readE (Rec.stI t k) = 0 → Rec.OkI t (k + 1) from fun h => HOK.out.snoc h)
    have HST := hid (fun (w2 w3 w4 : World) (o' : Value) he2 hr2 he3 ha ho => HI.out.step (w2 := w2) (w3 := w3) (w4 := w4) (o' := o') he2 hr2 he3 ha ho)
    have HOS := hid (show Rec.outI t (k + 1) = Rec.outI t k ++ [readV (Rec.stI t k)] from rfl)
    have HSS := hid (show Rec.stI t (k + 1) = readS (Rec.stI t k) from rfl)
    rw [HOS.out, HSS.out] at HST
    unfold ReadPost at HRD
    generalize readV (Rec.stI t k) = x at *
    generalize readE (Rec.stI t k) = re at *
    obtain ⟨x1, x2⟩ := x
    clear hlt hk HOS HSS
    go_wp2_with fail
    refine HRD.out.mono ?_
    rintro e w4 ⟨rfl, hx4⟩
    have HX4 := hid hx4
    clear hx4
    by_cases hre : re = 0
    · subst hre
      have HOK2 := hid (HSN.out rfl)
      clear hol
      go_upto_region 12 with fail
      have HG5 := hid ((Ext.refl w4).alloc (.cells #[.int .i64 x1, .int .i64 x2] 55))
      have c0 := (Blk.new w4 55 #[.int .i64 x1, .int .i64 x2]).cell 0
      have c1 := (Blk.new w4 55 #[.int .i64 x1, .int .i64 x2]).cell 1
      have c0 : (w4.alloc (.cells #[.int .i64 x1, .int .i64 x2] 55)).cell? ⟨w4.heap.size, 0, none⟩ = some (.int .i64 x1) := c0
      have c1 : (w4.alloc (.cells #[.int .i64 x1, .int .i64 x2] 55)).cell? ⟨w4.heap.size, 1, none⟩ = some (.int .i64 x2) := c1
      have HSZ := hid (show w1.heap.size ≤ (w4.alloc (.cells #[.int .i64 x1, .int .i64 x2] 55)).heap.size from Nat.le_trans (Nat.le_trans HI.out.ext.size HX4.out.extG.size) HG5.out.size)
      have HOL := hid ((HI.out.own2 HX4.out.extG).ext HG5.out)
      generalize w4.heap.size = q at *
      generalize w4.alloc (.cells #[.int .i64 x1, .int .i64 x2] 55) = w5 at *
      have HXL := hid ((Ext.refl w5).alloc (.cells #[.int .i64 x1, .int .i64 x2] 55))
      have HLIT := hid (RP.lit w5 #[.int .i64 x1, .int .i64 x2] 55 1 [(x1, x2)] rfl (by omega) rfl)
      go_wp2_with (at_builtin; refine wpList_app rfl elemM _ _ _ rfl w1.heap.size _ (Rec.outI t k).length _ rfl (HOL.out.ext HXL.out).own _ 1 _ rfl HLIT.out.rd (one_pV _) (by have := HOUT.out; omega) (by have := HOUT.out; unfold maxLen; omega) (by have := HSZ.out; simp; omega) ?_; intro v7 w7 ha)
      exact ⟨⟨k + 1, HLT.out, by go_num, HOK2.out, HST.out w4 _ w7 v7 HX4.out.extG HX4.out.rdr (HG5.out.trans HXL.out) ha.grown (OP.app ha.own)⟩, by have := HLT.out; simp [intOf]; omega⟩
    · have HE := hid (HP2.out hre)
      have hne : (re != 0) = true := by simpa using hre
      clear hre
      go_wp2
      go_ret2
      rw [HE.out.1, HE.out.2]
      exact ⟨_, rfl, OP.nilS _ _ _, (HX1.out.andQ (HI.out.out HX4.out.extG) (fun j hj => by have := HG1.out; omega)).alloc _⟩
  · obtain rfl : k = n := by omega
    have g2 : ¬ (k : Int) < (k : Int) := by omega
    have hbk : (Rec.stI t k).bad = false := HOK.out.good HTB.out
    have HR3 := hid HREST.out
    have HD3 := hid (HDONE.out HTB.out HN2.out HOK.out)
    obtain ⟨A9, c9, hb9, hv9, _⟩ := HI.out.nr
    have d0 := hb9.cell 0
    have HSRT := hid (rsorted_any _ _ wA HI.out.own.rp (by omega))
    have HOO := hid HI.out.own
    have HFIN := hid (HX1.out.andQ HI.out.ext (fun j hj => by have := HG1.out; omega))
    have HSZ := hid (show w.heap.size ≤ w1.heap.size from HX1.out.size)
    generalize (Rec.stI t k).l = rest at *
    generalize Rec.outI t k = out at *
    have d0 : wA.cell? ⟨g, 0, none⟩ = some (.slice A9 rest.length c9) := d0
    clear hk hol hbk hn9 hb9 hv9
    by_cases hr : rest = []
    · have HD4 := hid (fun ha => HD3.out hr ha)
      subst hr
      have g4 : ¬ (0 : Int) < (([] : List UInt8).length : Int) := by simp
      go_wp2_with fail
      refine HSRT.out.mono ?_
      rintro e w6 ⟨q, rfl, hq, he6⟩
      have HX6 := hid he6
      cases q with
      | true =>
       have HE := hid (HD4.out (hq.1 rfl))
       clear hq he6
       go_wp2
       go_ret2
       rw [HE.out.1, HE.out.2]
       exact ⟨_, rfl, (HOO.out.ext HX6.out).low HSZ.out, HFIN.out.trans HX6.out⟩
      | false =>
       have HE := hid (HR3.out (.inr fun h => by have := hq.2 h; cases this))
       clear hq he6
       go_wp2
       go_ret2
       rw [HE.out.1, HE.out.2]
       exact ⟨_, rfl, OP.nilS _ _ _, HFIN.out.trans HX6.out⟩
    · have hp : 0 < rest.length := List.length_pos_iff.2 hr
      have g4 : (0 : Int) < (rest.length : Int) := by omega
      have HE := hid (HR3.out (.inl hr))
      clear hr hp
      generalize rest.length = rn at *
      go_wp2
      go_ret2
      rw [HE.out.1, HE.out.2]
      exact ⟨_, rfl, OP.nilS _ _ _, HFIN.out⟩
end Go.Proofs.YtpmpjjhchkoboaaGreatDoor
namespace Go.Proofs.YtpmpjjhchkoboaaGreatDoor
open Go.RowKit Go.Ox Go.Ox.Gr Go.Ox.Sc
structure SRd (K : Nat → Prop) (B p g : Nat) (w : World) (S : PS) : Prop where
 blk : Blk w p 85 #[.pointer (some ⟨g, 0, none⟩), .bool S.gb]
 nr : NR K w g S.s
 ne : p ≠ g
 kp : ¬ K p
 lp : p < B
 lg : g < B
 lk : ∀ b, K b → b < B
section
variable {K : Nat → Prop} {B B' p g : Nat} {w w' : World} {S : PS} {s1 : Num.St}
theorem SRd.extQ (h : SRd K B p g w S) (he : ExtQ (fun k => B ≤ k) w w') : SRd K B p g w' S :=
 ⟨h.blk.extQ he (by have := h.lp; omega), h.nr.kept fun k hk hor => he.block k hk (fun q => by
  have q : B ≤ k := q
  rcases hor with hor | hor
  · have := h.lk k hor; omega
  · have := h.lg; omega), h.ne, h.kp, h.lp, h.lg, h.lk⟩
theorem SRd.ext (h : SRd K B p g w S) (he : Ext w w') : SRd K B p g w' S := h.extQ (ExtQ.of he)
theorem SRd.up (h : SRd K B p g w S) (hb : B ≤ B') : SRd K B' p g w S :=
 ⟨h.blk, h.nr, h.ne, h.kp, Nat.lt_of_lt_of_le h.lp hb, Nat.lt_of_lt_of_le h.lg hb, fun b hk => Nat.lt_of_lt_of_le (h.lk b hk) hb⟩
theorem SRd.num (h : SRd K B p g w S) (hr : NR K w' g s1) (he : ExtG g w w') : SRd K B p g w' ⟨s1, S.gb⟩ :=
 ⟨h.blk.extG he h.ne, hr, h.ne, h.kp, h.lp, h.lg, h.lk⟩
theorem SRd.mark (h : SRd K B p g w S) : SRd K B p g (w.setCell ⟨p, 1, none⟩ (.bool true)) ⟨S.s, true⟩ :=
 ⟨by simpa using h.blk.set_ 1 (.bool true), h.nr.kept fun k hk hor => (Below.heap_setCell w ⟨p, 1, none⟩ (.bool true) k (fun q => by
  have q : k = p := q
  subst q
  rcases hor with hor | hor
  · exact h.kp hor
  · exact h.ne hor)), h.ne, h.kp, h.lp, h.lg, h.lk⟩
theorem SRd.at_ (h : SRd K B p g w S) : w.cell? ⟨p, 0, none⟩ = some (.pointer (some ⟨g, 0, none⟩)) ∧ w.cell? ⟨p, 1, none⟩ = some (.bool S.gb) ∧ w.frozen? ⟨p, 1, none⟩ = false :=
 ⟨h.blk.cell 0, h.blk.cell 1, h.blk.frozen 1⟩
theorem SRd.size (h : SRd K B p g w S) : p < w.heap.size ∧ g < w.heap.size := ⟨h.blk.lt, h.nr.lt⟩
end
attribute [local irreducible] RE OE OB RB NodesR EpR InsR ActsR RP OP
set_option maxHeartbeats 4000000 in
theorem spartR_any (K : Nat → Prop) (B p g : Nat) (S : PS) (w : World) (h : SRd K B p g w S) (hl : S.s.l.length ≤ 1000000) :
 Calls Tryz.prog 51 #[.pointer (some ⟨p, 0, none⟩)] w fun e w' => ∃ v, e = .returned v ∧ OB 5 w.heap.size w' v (partP S).2 ∧ SRd K B p g w' (partP S).1 ∧ RX p g w w' := by
 have HH := hid h
 have HN := hid (fun w (h : NR K w g S.s) => num_any g S.s w h hl)
 have HP := hid (show partP S = (⟨(Num.bytesP ((Num.numP S.s).2 : Int) (Num.numP S.s).1).1, S.gb⟩, (Num.bytesP ((Num.numP S.s).2 : Int) (Num.numP S.s).1).2) from rfl)
 have hl1 := Num.numP_len S.s
 generalize partP S = R at *
 generalize Num.numP S.s = t at *
 obtain ⟨s1, n⟩ := t
 dsimp only at *
 have HY := hid (fun w (h : NR K w g s1) => bytes_any g (n : Int) s1 w h (by omega))
 generalize Num.bytesP (n : Int) s1 = r at *
 obtain ⟨s2, bs⟩ := r
 dsimp only at *
 obtain rfl := HP.out
 clear h hl hl1 HP
 obtain ⟨c0, c1, f1⟩ := HH.out.at_
 go_enter Tryz.func51, Tryz.ntmps51
 go_upto_region 1 with fail
 refine wp_region_tailZ 9 [11] [] Ext (ExtQ (fun k => k = g)) (fun w' => SRd K B p g w' S) (by kernel_rfl) (by kernel_rfl) (by kernel_rfl) (by kernel_rfl) (by kernel_rfl) (by kernel_rfl) (by kernel_rfl) (by rfl) (by rfl) (by kernel_rfl) (by kernel_rfl) (by kernel_rfl) (fun _ _ _ x y => x.trans y) (ExtQ.refl _) (fun _ _ x => ExtQ.of x) Ext.refl (Ext.refl _).drew (fun _ _ x y => x.ext y) (HH.out) ?_
 repeat (first | (refine wpZ_move0 rfl rfl (fun _ => (runsX rfl)) Ext.refl rfl rfl (fun _ => rfl) ?_; apply Exists.intro; refine ⟨?_, ?_⟩; · (go_simp; rfl)) | (refine wpZ_val rfl rfl (fun _ => (runsX rfl)) Ext.refl rfl ?_; apply Exists.intro; refine ⟨?_, ?_⟩; · (intro c a w' hR; (try (intro h1; try have e1 : _ = _ := h1)); (try (intro h2; try have e2 : _ = _ := h2)); (try (intro h3; try have e3 : _ = _ := h3)); go_simp; rfl)))
 refine wpZ_val rfl rfl (fun _ => (runsX rfl)) Ext.refl rfl ?_; apply Exists.intro; refine ⟨?_, ?_⟩
 · intro c a w' hR h1
   have e1 : _ = _ := h1
   have hl1 := (HH.out.blk.extQ hR HH.out.ne).cell 0
   go_simp
   rfl
 repeat (first | (refine wpZ_move0 rfl rfl (fun _ => (runsX rfl)) Ext.refl rfl rfl (fun _ => rfl) ?_; apply Exists.intro; refine ⟨?_, ?_⟩; · (go_simp; rfl)) | (refine wpZ_val rfl rfl (fun _ => (runsX rfl)) Ext.refl rfl ?_; apply Exists.intro; refine ⟨?_, ?_⟩; · (intro c a w' hR; (try (intro h1; try have e1 : _ = _ := h1)); (try (intro h2; try have e2 : _ = _ := h2)); (try (intro h3; try have e3 : _ = _ := h3)); go_simp; rfl)))
 refine wpZ_val rfl rfl (fun _ => (runsX rfl)) Ext.refl rfl ?_; apply Exists.intro; refine ⟨?_, ?_⟩
 · intro c a w' hR h1
   have e1 : _ = _ := h1
   have hl1 := (HH.out.blk.extQ hR HH.out.ne).cell 0
   go_simp
   rfl
 refine wpZ_eff (fun c v _ => v = .int .i64 (n : Nat)) (fun w' => SRd K B p g w' ⟨s1, S.gb⟩) rfl (runsX rfl) rfl (keptC_eq) (fun _ _ x y => x.ext y) ?_ ?_
 · intro a w' hR hS h1 K hK
   have e1 : _ = _ := h1
   go_simp
   refine (HN.out w' hS.nr).mono ?_
   rintro e w3 ⟨rfl, hr3, he3⟩
   exact hK _ _ (ExtQ.extG he3 rfl) (hS.num hr3 he3) rfl
 refine wpZ_done ?_
 intro w6 hx6 hS6
 iterate 9 (rintro _ rfl)
 dsimp only [FinV]
 go_simp
 have HG6 := hid (show SRd K B p g w6 ⟨s1, S.gb⟩ from hS6)
 have HX6 := hid (show ExtQ (fun k => k = g) w w6 from hx6)
 clear hS6 hx6 c0 c1 f1
 simp only [thenTail, List.drop_succ_cons, List.drop_zero]
 go_wp2_with fail
 refine (HY.out _ HG6.out.nr).mono ?_
 rintro e w7 ⟨v7, rfl, ho7, hr7, he7⟩
 have HO7 := hid (ho7.low HX6.out.size)
 have HG7 := hid (HG6.out.num hr7 he7)
 have HX7 := hid ((HX6.out.mono fun k hk => Or.inr hk).trans (RX.num (p := p) he7))
 obtain ⟨A7, c7, rfl⟩ := ho7.form
 clear ho7 hr7 he7
 go_wp2
 go_ret
 exact ⟨_, rfl, HO7.out, HG7.out, HX7.out⟩
set_option maxHeartbeats 4000000 in
theorem sbag_any (K : Nat → Prop) (B p g : Nat) (S : PS) (w : World) (h : SRd K B p g w S) (hB : B ≤ w.heap.size) (hl : S.s.l.length ≤ 1000000) :
 Calls Tryz.prog 104 #[.pointer (some ⟨p, 0, none⟩)] w fun e w' => ∃ v, e = .returned v ∧ (∀ W, ExtQ (fun k => k < w.heap.size) w' W → RP W v (bagP S).2) ∧ SRd K B p g w' (bagP S).1 ∧ RX p g w w' := by
 have HC := hid (spartR_any K B p g S w h hl)
 have HP := hid (show bagP S = (⟨(partP S).1.s, (partP S).1.gb || decide (Rec.decE (partP S).2 ≠ 0)⟩, Rec.decL (partP S).2) from rfl)
 have hgb : (partP S).1.gb = S.gb := rfl
 have hbl : (partP S).2.length ≤ 1000000 := by
  have h1 := Num.numP_len S.s
  have h2 : (Num.bytesP ((Num.numP S.s).2 : Int) (Num.numP S.s).1).2.length ≤ (Num.numP S.s).1.l.length := by
   by_cases hn : (Num.numP S.s).1.bad = true ∨ ((Num.numP S.s).2 : Int) < 0 ∨ (((Num.numP S.s).1.l.length : Nat) : Int) < ((Num.numP S.s).2 : Int)
   · rw [Num.bytesP_no hn]; simp
   · have hb : (Num.numP S.s).1.bad = false := by cases h0 : (Num.numP S.s).1.bad with | true => exact absurd (.inl h0) hn | false => rfl
     rw [Num.bytesP_yes hb (by omega)]
     simp
     omega
  exact Nat.le_trans h2 (Nat.le_trans h1 hl)
 generalize bagP S = R at *
 generalize partP S = t at *
 obtain ⟨⟨s1, gb1⟩, bs⟩ := t
 dsimp only at *
 have HD := hid (fun v w h => dec_any v bs w h hbl)
 generalize Rec.decE bs = er at *
 generalize Rec.decL bs = L at *
 obtain ⟨y, hy⟩ : ∃ y, y = decide (er ≠ 0) := ⟨_, rfl⟩
 rw [← hy] at HP
 have HYE := hid (show (er != 0) = y from by rw [hy]; cases h : (er != 0) <;> simp at h <;> simp [h])
 obtain rfl := HP.out
 have HBW := hid hB
 clear h hl HP hy hbl hB hgb
 go_enter Tryz.func104, Tryz.ntmps104
 go_wp2_with fail
 refine HC.out.mono ?_
 rintro e w1 ⟨v1, rfl, ho1, hg1, hx1⟩
 have HG1 := hid hg1
 have HX1 := hid hx1
 have HDC := hid (HD.out v1 w1 ho1.rb)
 obtain ⟨A1, c1, rfl⟩ := ho1.form
 clear ho1 hg1 hx1
 go_wp2_with fail
 refine HDC.out.mono ?_
 rintro e w2 ⟨v2, rfl, ho2, he2⟩
 have HG2 := hid (HG1.out.ext he2)
 have HX2 := hid (HX1.out.trans (ExtQ.of he2))
 have HO2 := hid (OP.low ho2 HX1.out.size)
 obtain ⟨A2, c2, rfl⟩ := ho2.rp.form
 obtain ⟨c0, c1', f1⟩ := HG2.out.at_
 dsimp only at c1'
 clear ho2 he2
 have hye := HYE.out
 have HST := hid (show ∀ b, SRd K B p g (w2.setCell ⟨p, 1, none⟩ (.bool b)) ⟨s1, b⟩ from fun b => by
  have h := HG2.out
  exact ⟨by simpa using h.blk.set_ 1 (.bool b), h.nr.kept fun k hk hor => (Below.heap_setCell w2 ⟨p, 1, none⟩ (.bool b) k (fun q => by
   have q : k = p := q
   subst q
   rcases hor with hor | hor
   · exact h.kp hor
   · exact h.ne hor)), h.ne, h.kp, h.lp, h.lg, h.lk⟩)
 have HSX := hid (show ∀ b, RX p g w (w2.setCell ⟨p, 1, none⟩ (.bool b)) from fun b => ExtQ.setCell (Q := fun k => k = p ∨ k = g) HX2.out (p := ⟨p, 1, none⟩) (.inl rfl) _)
 have HRP := hid (show ∀ b W, ExtQ (fun k => k < w.heap.size) (w2.setCell ⟨p, 1, none⟩ (.bool b)) W → RP W (.slice A2 L.length c2) L from fun b W hW => by
  have h1 : ExtQ (fun k => k < w.heap.size) w2 (w2.setCell ⟨p, 1, none⟩ (.bool b)) := ExtQ.setCell (Q := fun k => k < w.heap.size) (ExtQ.refl _ _) (p := ⟨p, 1, none⟩) (by have := HG2.out.lp; have := HBW.out; show p < w.heap.size; omega) _
  exact (OP.extQ HO2.out (h1.trans hW) (fun k hk q => by have := (HO2.out.own.lt k hk).1; have q : k < w.heap.size := q; omega)).rp)
 cases gb1 with
 | true =>
  go_wp2
  go_ret
  exact ⟨_, rfl, HRP.out true, HST.out true, HSX.out true⟩
 | false =>
  go_wp2
  go_ret
  exact ⟨_, rfl, HRP.out y, HST.out y, HSX.out y⟩
end Go.Proofs.YtpmpjjhchkoboaaGreatDoor
namespace Go.Ox.Sc
open Go.Ox.Gr (PS)
theorem itrA_stop {α : Type} {f : PS → PS × α} {S : PS} (h : S.gb = true ∨ S.s.bad = true) (n : Nat) : itrA f n S = (S, []) := by
 cases n with
 | zero => rfl
 | succ n => rw [itrA, if_pos h]
theorem itrA_go {α : Type} {f : PS → PS × α} {S : PS} (h : ¬ (S.gb = true ∨ S.s.bad = true)) (n : Nat) : itrA f (n + 1) S = ((itrA f n (f S).1).1, (f S).2 :: (itrA f n (f S).1).2) := by
 rw [itrA, if_neg h]
end Go.Ox.Sc
namespace Go.Proofs.YtpmpjjhchkoboaaGreatDoor
open Go.RowKit Go.Ox Go.Ox.Gr Go.Ox.Sc
abbrev RN (p g : Nat) (M : Nat → Prop) (w w' : World) : Prop := ExtQ (fun k => k = p ∨ k = g ∨ M k) w w'
theorem RX.rn {p g : Nat} {M : Nat → Prop} {w w' : World} (h : RX p g w w') : RN p g M w w' := ExtQ.mono h fun k hk => hk.elim .inl fun e => .inr (.inl e)
def StepR {α : Type} (K : Nat → Prop) (B p g N : Nat) (M : Nat → Prop) (fid : Nat) (lb : Array Value) (f : PS → PS × α) (J : List α → World → Prop) : Prop :=
 ∀ (S : PS) (acc : List α) (W : World), SRd K B p g W S → J acc W → N ≤ W.heap.size → S.s.l.length ≤ 1000000 → acc.length ≤ 256 →
  Calls Tryz.prog fid lb W fun e W' => e = .returned (.tuple #[]) ∧ SRd K B p g W' (f S).1 ∧ J (acc ++ [(f S).2]) W' ∧ RN p g M W W'
attribute [local irreducible] RE OE OB RB NodesR EpR InsR ActsR RP OP
set_option maxHeartbeats 8000000 in
theorem row_any {α : Type} (K : Nat → Prop) (B p g N : Nat) (M : Nat → Prop) (f : PS → PS × α) (most : Int) (fid : Nat) (lb : Array Value) (eg : ∀ args w, (callFunc fid args).run Tryz.prog w = .ok (.enter fid args) w) (J : List α → World → Prop)
 (hstep : StepR K B p g N M fid lb f J) (hJ : ∀ acc W W', J acc W → RX p g W W' → J acc W') (hlen : ∀ S, (f S).1.s.l.length ≤ S.s.l.length)
 (S : PS) (w : World) (h : SRd K B p g w S) (hN : N ≤ w.heap.size) (hl : S.s.l.length ≤ 1000000) (hj : J [] w) (hm1 : most ≤ 256) :
 Calls Tryz.prog 52 #[.pointer (some ⟨p, 0, none⟩), .int .i64 most, .func (.func fid) #[] lb] w fun e w' => e = .returned (.tuple #[]) ∧ SRd K B p g w' (rowP most f S).1 ∧ J (rowP most f S).2 w' ∧ RN p g M w w' := by
 have HH := hid h
 have HN := hid (num_any g S.s w h.nr hl)
 have HP := hid (show rowP most f S = if most < ((Num.numP S.s).2 : Int) then (⟨(Num.numP S.s).1, true⟩, []) else itrA f (Num.numP S.s).2 ⟨(Num.numP S.s).1, S.gb⟩ from rfl)
 have hl1 := Num.numP_len S.s
 have HJ0 := hid hj
 have HJX := hid hJ
 have HNW := hid hN
 have HST := hid hstep
 have HLN := hid hlen
 obtain ⟨c0, c1, f1⟩ := h.at_
 generalize rowP most f S = R at *
 generalize Num.numP S.s = t at *
 obtain ⟨s1, n⟩ := t
 dsimp only at *
 have HL1 := hid (show s1.l.length ≤ 1000000 from by omega)
 clear h hl hl1 hj hJ hN hstep hlen
 go_enter Tryz.func52, Tryz.ntmps52
 go_wp2_with fail
 refine HN.out.mono ?_
 rintro e w1 ⟨rfl, hr1, he1⟩
 have H1 := hid (HH.out.num hr1 he1)
 have HX1 := hid (RX.num (p := p) he1)
 have HJ1 := hid (HJX.out _ _ _ HJ0.out (RX.num (p := p) he1))
 clear hr1 he1 c0 c1 f1
 obtain ⟨c0, c1, f1⟩ := H1.out.at_
 by_cases hm : most < (n : Int)
 · have hb : decide ((n : Int) > most) = true := by simpa using hm
   rw [if_pos hm] at HP
   have HM := hid (show SRd K B p g (w1.setCell ⟨p, 1, none⟩ (.bool true)) ⟨s1, true⟩ from H1.out.mark)
   have hxm : ExtQ (fun k => k = p ∨ k = g) w1 (w1.setCell ⟨p, 1, none⟩ (.bool true)) := ExtQ.setCell (Q := fun k => k = p ∨ k = g) (ExtQ.refl _ _) (p := ⟨p, 1, none⟩) (.inl rfl) _
   have HJM := hid (HJX.out _ _ _ HJ1.out hxm)
   have HXM := hid (RX.rn (M := M) (HX1.out.trans hxm))
   obtain rfl := HP.out
   clear hm hxm
   go_wp2
   refine bodyPost_ret (results_none rfl _ _ _) rfl ?_
   exact ⟨rfl, HM.out, HJM.out, HXM.out⟩
 · have hb : decide ((n : Int) > most) = false := by simpa using hm
   rw [if_neg hm] at HP
   have HN256 := hid (show n ≤ 256 by omega)
   clear hm
   go_wp2
   clear c0 c1 f1 hb
   go_loopw [7] (fun iv wr => ∃ (i m : Nat) (S' : PS) (acc : List α), i + m = n ∧ iv = .int .i64 (i : Int) ∧ acc.length = i ∧ R = ((itrA f m S').1, acc ++ (itrA f m S').2) ∧ SRd K B p g wr S' ∧ J acc wr ∧ RN p g M w wr ∧ S'.s.l.length ≤ 1000000) (fun iv _ => n - (intOf iv).toNat)
   case atStart => exact ⟨0, n, ⟨s1, S.gb⟩, [], by omega, rfl, rfl, by rw [HP.out]; rfl, H1.out, HJ1.out, RX.rn HX1.out, HL1.out⟩
   case round =>
    obtain ⟨i, m, S', acc, him, rfl, hacc, heq, hg, hja, hx, hls⟩ := hrel
    have HG := hid hg
    have HJA := hid hja
    have HX := hid hx
    have HLS := hid hls
    have HEQ := hid heq
    have HACC := hid hacc
    have HIM := hid him
    have hi256 : i ≤ 256 := by have := HN256.out; omega
    obtain ⟨c0, c1, f1⟩ := hg.at_
    clear hg hja hx hls heq hacc
    cases m with
    | zero =>
     obtain rfl : i = n := by omega
     have q1 : ¬ (i : Int) < (i : Int) := by omega
     have HR := hid (show R = (S', acc) from by rw [HEQ.out]; simp [itrA])
     clear him
     go_wp2
     go_end0
     rw [HR.out]
     exact ⟨rfl, HG.out, HJA.out, HX.out⟩
    | succ m =>
     have q1 : (i : Int) < (n : Int) := by omega
     have HB := hid (bad_any g S'.s wr HG.out.nr)
     obtain ⟨s', gb'⟩ := S'
     dsimp only at *
     cases gb' with
     | true =>
      have HR := hid (show R = (⟨s', true⟩, acc) from by rw [HEQ.out, itrA_stop (.inl rfl)]; simp)
      clear him
      go_wp2
      go_end0
      rw [HR.out]
      exact ⟨rfl, HG.out, HJA.out, HX.out⟩
     | false =>
      cases hbd : s'.bad with
      | true =>
       rw [hbd] at HB
       have HR := hid (show R = (⟨s', false⟩, acc) from by rw [HEQ.out, itrA_stop (.inr hbd)]; simp)
       clear him hbd
       go_wp2_with fail
       refine HB.out.mono ?_
       rintro e w2 ⟨rfl, rfl⟩
       go_wp2
       go_end0
       rw [HR.out]
       exact ⟨rfl, HG.out, HJA.out, HX.out⟩
      | false =>
       rw [hbd] at HB
       have HR := hid (show R = ((itrA f m (f ⟨s', false⟩).1).1, (acc ++ [(f ⟨s', false⟩).2]) ++ (itrA f m (f ⟨s', false⟩).1).2) from by rw [HEQ.out, itrA_go (by rw [hbd]; simp)]; simp)
       have HC := hid (HST.out ⟨s', false⟩ acc wr HG.out HJA.out (Nat.le_trans HNW.out HX.out.size) HLS.out (by have := HACC.out; omega))
       have HL2 := hid (Nat.le_trans (HLN.out ⟨s', false⟩) HLS.out)
       generalize f ⟨s', false⟩ = fr at *
       obtain ⟨SN, y⟩ := fr
       dsimp only at *
       clear him hbd
       go_wp2_with fail
       refine HB.out.mono ?_
       rintro e w2 ⟨rfl, rfl⟩
       clear c0 c1 f1
       go_wp2_with fail
       refine HC.out.mono ?_
       rintro e w3 ⟨rfl, hg3, hj3, hx3⟩
       have H3 := hid (And.intro hg3 (And.intro hj3 (HX.out.trans hx3)))
       clear hg3 hj3 hx3
       go_wp2
       exact ⟨⟨i + 1, m, SN, acc ++ [y], by have := HIM.out; omega, by go_num, by have := HACC.out; simp; omega, HR.out, H3.out.1, H3.out.2.1, H3.out.2.2, HL2.out⟩, by have := HIM.out; simp [intOf]; omega⟩
end Go.Proofs.YtpmpjjhchkoboaaGreatDoor
