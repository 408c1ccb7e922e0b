/-
  RecDec, packed: what the claim needs of them.
-/
import Derived.Test.YtpmpjjhchkoboaaGreatDoorPa34
import Derived.Test.YtpmpjjhchkoboaaGreatDoorPa35
import Derived.Test.YtpmpjjhchkoboaaGreatDoorPa05
namespace Go.Proofs.YtpmpjjhchkoboaaGreatDoor
open Go.RowKit Go.Ox Go.Shelf
open Go.Ox.Rec (readM readS readE readV)
attribute [local irreducible] OP RP
set_option linter.unusedVariables false
set_option linter.unusedSimpArgs false
/-- what the loops of Decode hold -/
structure DecI (K : Nat → Prop) (T : TypeId) (w1 : World) (g : Nat) (t : Num.St) (k : Nat) (o : Value) (w : World) : Prop where
  nr : Rdr K T w g (Rec.stI t k).l (Rec.stI t k).bad
  own : OP 55 w1.heap.size w o (Rec.outI t k)
  ext : ExtQ (fun j => j = g) w1 w
  bd : g < w1.heap.size ∧ ∀ b, K b → b < w1.heap.size
section
variable {K : Nat → Prop} {T : TypeId} {w1 : World} {g : Nat} {t : Num.St} {k : Nat} {o o' : Value} {w w2 w3 w4 : World}
theorem DecI.hK (h : DecI K T w1 g t k o w) : ∀ b, K b → b < w.heap.size := fun b hb => Nat.lt_of_lt_of_le (h.bd.2 b hb) h.ext.size
theorem DecI.high (h : DecI K T w1 g t k o w) {j : Nat} (hj : o.ownBlock = some j) : w1.heap.size ≤ j := ((OP.own h.own).lt j hj).1
theorem DecI.own2 (h : DecI K T w1 g t k o w) (he : ExtG g w w2) : OP 55 w1.heap.size w2 o (Rec.outI t k) :=
  OP.extQ h.own (ExtQ.extG (Q := fun j => j = g) he rfl) fun j hj e => by have := h.high hj; have := h.bd.1; omega
theorem DecI.step (h : DecI K T w1 g t k o w) (he2 : ExtG g w w2) (hr2 : Rdr K T w2 g (Rec.stI t (k + 1)).l (Rec.stI t (k + 1)).bad) (he3 : Ext w2 w3) (ha : w3.grownBy w4 o.ownBlock) (ho : OP 55 w1.heap.size w4 o' (Rec.outI t (k + 1))) : DecI K T w1 g t (k + 1) o' w4 := by
  refine ⟨(hr2.ext he3).grown ha fun j hj => ?_, ho, ?_, h.bd⟩
  · have h1 := h.high hj
    exact ⟨fun hk => by have := h.bd.2 j hk; omega, by have := h.bd.1; omega⟩
  · have e1 := (h.ext.trans (ExtQ.extG (Q := fun j => j = g) he2 rfl)).trans (ExtQ.of he3)
    exact ((e1.mono (Q' := fun j => j = g ∨ o.ownBlock = some j) (fun j q => .inl q)).trans (ExtQ.grown ha fun j q => .inr q)).mono' fun j hl q => by
      rcases q with q | q
      · exact q
      · have := h.high q; omega
theorem DecI.out (h : DecI K T w1 g t k o w) (he2 : ExtG g w w2) : ExtQ (fun j => j = g) w1 w2 := h.ext.trans (ExtQ.extG (Q := fun j => j = g) he2 rfl)
end
set_option maxRecDepth 100000 in
set_option maxHeartbeats 4000000 in
theorem dec_any (v : Value) (b : List UInt8) (w : World) (hv : RB w v b) (hl : b.length ≤ 1000000) :
    Calls Tryz.prog 134 #[v] w fun e w' => ∃ u, e = .returned (.tuple #[u, .int .i64 (Rec.decE b)]) ∧ OP 55 w.heap.size w' u (Rec.decL b) ∧ Ext w w' := by
  have HF := Lib.hid (from_any v b w hv hl)
  have HBAD := Lib.hid (fun t n h hb => @Rec.dec_bad b t n h hb)
  have HPART := Lib.hid (fun t n k h hk he => @Rec.dec_part b t n k h hk he)
  have HREST := Lib.hid (fun t n h he => @Rec.dec_rest b t n h he)
  have HDONE := Lib.hid (fun t n h hb hn hk he ha => @Rec.dec_done b t n h hb hn hk he ha)
  have HN := Lib.hid (fun K g w (h : NR K w g ⟨b, false⟩) => num_any g ⟨b, false⟩ w h hl)
  have hnl := Num.numP_len ⟨b, false⟩
  obtain ⟨A, c, rfl⟩ := RB.form hv
  clear hv
  generalize hq : Num.numP ⟨b, false⟩ = tn at *
  obtain ⟨t, n⟩ := tn
  simp only at hnl HN
  have HBAD := Lib.hid (HBAD.out t n rfl)
  have HPART := Lib.hid (fun k => HPART.out t n k rfl)
  have HREST := Lib.hid (HREST.out t n rfl)
  have HDONE := Lib.hid (HDONE.out t n rfl)
  have HTL := Lib.hid (show t.l.length ≤ 1000000 by omega)
  generalize Rec.decE b = dE at *
  generalize Rec.decL b = dL at *
  clear hnl hl hq
  go_enter Tryz.func134, Tryz.ntmps134
  go_wp2_with fail
  refine HF.out.mono ?_
  rintro e w1 ⟨g, rfl, hr1, he1, hg1⟩
  have HR1 := Lib.hid hr1
  have HX1 := Lib.hid he1
  have HG1 := Lib.hid hg1
  clear hr1 he1 hg1 HF
  go_wp2_with fail
  refine (HN.out _ g w1 HR1.out).mono ?_
  rintro e w2 ⟨rfl, hr2, he2⟩
  have HR2 := Lib.hid hr2
  have HX2 := Lib.hid he2
  have HB2 := Lib.hid (bad_any g t w2 hr2)
  have HGW := Lib.hid (show g < w1.heap.size from HR1.out.lt)
  clear hr2 he2 HN
  by_cases hb : t.bad = true
  · have HE := Lib.hid (HBAD.out (.inl hb))
    rw [hb] at HB2
    clear hb
    go_wp2_with fail
    refine HB2.out.mono ?_
    rintro e w3 ⟨rfl, rfl⟩
    go_wp2
    go_ret2
    rw [HE.out.1, HE.out.2]
    exact ⟨_, rfl, OP.nilS _ _ _, HX1.out.andG HX2.out HG1.out⟩
  have hb : t.bad = false := by cases h : t.bad with | true => exact absurd h hb | false => rfl
  rw [hb] at HB2
  have HTB := Lib.hid hb
  clear hb
  by_cases hn : 4096 < n
  · have HE := Lib.hid (HBAD.out (.inr hn))
    have g1 : (4096 : Int) < (n : Int) := by omega
    clear hn
    go_wp2_with fail
    refine HB2.out.mono ?_
    rintro e w3 ⟨rfl, rfl⟩
    go_wp2
    go_ret2
    rw [HE.out.1, HE.out.2]
    exact ⟨_, rfl, OP.nilS _ _ _, HX1.out.andG HX2.out HG1.out⟩
  have g1 : ¬ (4096 : Int) < (n : Int) := by omega
  have HN2 := Lib.hid (show n ≤ 4096 by omega)
  clear hn
  go_wp2_with fail
  refine HB2.out.mono ?_
  rintro e w3 ⟨rfl, rfl⟩
  go_wp2
  go_loopw [6, 20] (fun o iv wr => ∃ k : Nat, k ≤ n ∧ iv = .int .i64 (k : Int) ∧ Rec.OkI t k ∧ DecI (fun j => j < w1.heap.size) 136 w1 g t k o wr) (fun _ iv _ => n - (intOf iv).toNat)
  case atStart => exact ⟨0, Nat.zero_le _, rfl, fun i hi => absurd hi (Nat.not_lt_zero _), ⟨HR2.out, OP.nilS _ _ _, ExtQ.extG (Q := fun j => j = g) HX2.out rfl, HGW.out, fun b hb => hb⟩⟩
  case round =>
    obtain ⟨k, hk, rfl, hok, hI⟩ := hrel
    rename World => wA
    have HI := Lib.hid hI
    have HOK := Lib.hid hok
    obtain ⟨AO, cO, rfl⟩ := hI.own.rp.form
    have hol := Rec.outI_len t k
    have hn9 := HN2.out
    clear hI hok
    by_cases hlt : k < n
    · have g2 : (k : Int) < (n : Int) := by omega
      have HLT := Lib.hid hlt
      have HOUT := Lib.hid (show (Rec.outI t k).length ≤ 1000000 by omega)
      have HRD := Lib.hid (mread_any g (Rec.stI t k) wA HI.out.nr (Nat.le_trans (Rec.stI_len t k) HTL.out) HI.out.hK)
      have HP2 := Lib.hid (HPART.out k hlt)
      have HSN := Lib.hid (show readE (Rec.stI t k) = 0 → Rec.OkI t (k + 1) from fun h => HOK.out.snoc h)
      have HST := Lib.hid (fun (w2 w3 w4 : World) (o' : Value) he2 hr2 he3 ha ho => HI.out.step (w2 := w2) (w3 := w3) (w4 := w4) (o' := o') he2 hr2 he3 ha ho)
      have HOS := Lib.hid (show Rec.outI t (k + 1) = Rec.outI t k ++ [readV (Rec.stI t k)] from rfl)
      have HSS := Lib.hid (show Rec.stI t (k + 1) = readS (Rec.stI t k) from rfl)
      rw [HOS.out, HSS.out] at HST
      unfold ReadPost at HRD
      generalize readV (Rec.stI t k) = x at *
      generalize readE (Rec.stI t k) = re at *
      obtain ⟨x1, x2⟩ := x
      clear hlt hk HOS HSS
      go_wp2_with fail
      refine HRD.out.mono ?_
      rintro e w4 ⟨rfl, hx4⟩
      have HX4 := Lib.hid hx4
      clear hx4
      by_cases hre : re = 0
      · subst hre
        have HOK2 := Lib.hid (HSN.out rfl)
        clear hol
        go_upto_region 11 with fail
        have HG5 := Lib.hid ((Ext.refl w4).alloc (.cells #[.int .i64 x1, .int .i64 x2] 55))
        have c0 := (Blk.new w4 55 #[.int .i64 x1, .int .i64 x2]).cell 0
        have c1 := (Blk.new w4 55 #[.int .i64 x1, .int .i64 x2]).cell 1
        have c0 : (w4.alloc (.cells #[.int .i64 x1, .int .i64 x2] 55)).cell? ⟨w4.heap.size, 0, none⟩ = some (.int .i64 x1) := c0
        have c1 : (w4.alloc (.cells #[.int .i64 x1, .int .i64 x2] 55)).cell? ⟨w4.heap.size, 1, none⟩ = some (.int .i64 x2) := c1
        have HSZ := Lib.hid (show w1.heap.size ≤ (w4.alloc (.cells #[.int .i64 x1, .int .i64 x2] 55)).heap.size from Nat.le_trans (Nat.le_trans HI.out.ext.size HX4.out.extG.size) HG5.out.size)
        have HOL := Lib.hid ((HI.out.own2 HX4.out.extG).ext HG5.out)
        generalize w4.heap.size = q at *
        generalize w4.alloc (.cells #[.int .i64 x1, .int .i64 x2] 55) = w5 at *
        have HXL := Lib.hid ((Ext.refl w5).alloc (.cells #[.int .i64 x1, .int .i64 x2] 55))
        have HLIT := Lib.hid (RP.lit w5 #[.int .i64 x1, .int .i64 x2] 55 1 [(x1, x2)] rfl (by omega) rfl)
        go_wp2_with (at_builtin; refine wpList_app rfl elemM _ _ _ rfl w1.heap.size _ (Rec.outI t k).length _ rfl (HOL.out.ext HXL.out).own _ 1 _ rfl HLIT.out.rd (one_pV _) (by have := HOUT.out; omega) (by have := HOUT.out; unfold maxLen; omega) (by have := HSZ.out; simp; omega) ?_; intro v7 w7 ha)
        exact ⟨⟨k + 1, HLT.out, by go_num, HOK2.out, HST.out w4 _ w7 v7 HX4.out.extG HX4.out.rdr (HG5.out.trans HXL.out) ha.grown (OP.app ha.own)⟩, by have := HLT.out; simp [intOf]; omega⟩
      · have HE := Lib.hid (HP2.out hre)
        have hne : (re != 0) = true := by simpa using hre
        clear hre
        go_wp2
        go_ret2
        rw [HE.out.1, HE.out.2]
        exact ⟨_, rfl, OP.nilS _ _ _, (HX1.out.andQ (HI.out.out HX4.out.extG) (fun j hj => by have := HG1.out; omega)).alloc _⟩
    · obtain rfl : k = n := by omega
      have g2 : ¬ (k : Int) < (k : Int) := by omega
      have hbk : (Rec.stI t k).bad = false := HOK.out.good HTB.out
      have HDN := Lib.hid (done_any g (Rec.stI t k) wA HI.out.nr)
      rw [hbk] at HDN
      have HR3 := Lib.hid HREST.out
      have HD3 := Lib.hid (HDONE.out HTB.out HN2.out HOK.out)
      have HRP := Lib.hid HI.out.own.rp
      have HSRT := Lib.hid (recSorted_any _ _ wA HI.out.own.rp (by omega))
      have HOO := Lib.hid HI.out.own
      have HFIN := Lib.hid (HX1.out.andQ HI.out.ext (fun j hj => by have := HG1.out; omega))
      have HSZ := Lib.hid (show w.heap.size ≤ w1.heap.size from HX1.out.size)
      generalize (Rec.stI t k).l = rest at *
      generalize Rec.outI t k = out at *
      clear hk hol hbk hn9
      by_cases hr : rest = []
      · have HD4 := Lib.hid (fun ha => HD3.out hr ha)
        subst hr
        rw [if_neg (by simp)] at HDN
        go_wp2_with fail
        refine HDN.out.mono ?_
        rintro e w5 ⟨rfl, rfl⟩
        go_wp2_with fail
        refine HSRT.out.mono ?_
        rintro e w6 ⟨q, rfl, hq, he6⟩
        have HX6 := Lib.hid he6
        cases q with
        | true =>
          have HE := Lib.hid (HD4.out (hq.1 rfl))
          clear hq he6
          go_wp2
          go_ret2
          rw [HE.out.1, HE.out.2]
          exact ⟨_, rfl, (HOO.out.ext HX6.out).low HSZ.out, HFIN.out.trans HX6.out⟩
        | false =>
          have HE := Lib.hid (HR3.out (.inr fun h => by have := hq.2 h; cases this))
          clear hq he6
          go_wp2
          go_ret2
          rw [HE.out.1, HE.out.2]
          exact ⟨_, rfl, OP.nilS _ _ _, HFIN.out.trans HX6.out⟩
      · rw [if_pos (.inr hr)] at HDN
        have HE := Lib.hid (HR3.out (.inl hr))
        clear hr
        go_wp2_with fail
        refine HDN.out.mono ?_
        rintro e w5 ⟨rfl, rfl⟩
        go_wp2
        go_ret2
        rw [HE.out.1, HE.out.2]
        exact ⟨_, rfl, OP.nilS _ _ _, HFIN.out⟩
end Go.Proofs.YtpmpjjhchkoboaaGreatDoor
