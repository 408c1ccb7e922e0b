/-
  ScrEncR, ScrLawA, ScrDecRM, ScrCnt, packed: what the claim needs of them.
-/
import Derived.Test.YtpmpjjhchkoboaaGreatDoorPc27
import Derived.Test.YtpmpjjhchkoboaaGreatDoorPc40
import Derived.Test.YtpmpjjhchkoboaaGreatDoorPc10
import Derived.Test.YtpmpjjhchkoboaaGreatDoorPc11
import Derived.Test.YtpmpjjhchkoboaaGreatDoorPc08
import Derived.Test.YtpmpjjhchkoboaaGreatDoorPc03
import Derived.Test.YtpmpjjhchkoboaaGreatDoorPc36
import Derived.Test.YtpmpjjhchkoboaaGreatDoorPc06
import Derived.Test.YtpmpjjhchkoboaaGreatDoorPc02
import Derived.Test.YtpmpjjhchkoboaaGreatDoorPc31
import Derived.Test.YtpmpjjhchkoboaaGreatDoorPc41
import Derived.Test.YtpmpjjhchkoboaaGreatDoorPc33
import Derived.Test.YtpmpjjhchkoboaaGreatDoorPc21
import Derived.Test.YtpmpjjhchkoboaaGreatDoorPc19
import Derived.Test.YtpmpjjhchkoboaaGreatDoorPc12
open Go.Lib (hid)
set_option linter.unusedSimpArgs false
set_option linter.unusedVariables false
set_option maxRecDepth 100000
namespace Go.Ox
open Go.RowKit
structure OX (v : Value) (w : World) (v' : Value) (w' : World) : Prop where
 x : ExtQ (fun k => v.ownBlock = some k) w w'
 own : ∀ k, v'.ownBlock = some k → v.ownBlock = some k ∨ w.heap.size ≤ k
section
variable {B T : Nat} {w w' w2 : World} {v v' v2 : Value} {l m : List UInt8}
theorem OX.refl (v : Value) (w : World) : OX v w v w := ⟨ExtQ.refl _ _, fun _ h => .inl h⟩
theorem OX.trans (h : OX v w v' w') (k : OX v' w' v2 w2) : OX v w v2 w2 :=
 ⟨⟨k.x.os.trans h.x.os, k.x.tape.trans h.x.tape, k.x.output.trans h.x.output, Nat.le_trans h.x.size k.x.size, fun j hj hn => (k.x.block j (Nat.lt_of_lt_of_le hj h.x.size) (fun q => by
  rcases h.own j q with r | r
  · exact hn r
  · omega)).trans (h.x.block j hj hn)⟩,
  fun j hj => by
   rcases k.own j hj with q | q
   · exact h.own j q
   · exact .inr (Nat.le_trans h.x.size q)⟩
theorem OX.of (h : Ext w w') : OX v w v w' := ⟨ExtQ.of h, fun _ q => .inl q⟩
theorem OX.ext (h : OX v w v' w') (he : Ext w' w2) : OX v w v' w2 := h.trans (OX.of he)
theorem OX.more (h : OX v w v' w') (hW : ExtQ (fun k => v'.ownBlock = some k) w' w2) : OX v w v' w2 := h.trans ⟨hW, fun _ q => .inl q⟩
theorem OX.old {w0 : World} (h : OX v w v' w') (he : Ext w0 w) (ho : OB T w0.heap.size w v l) : Ext w0 w' :=
 he.andQ h.x fun k hk => (ho.own.lt k hk).1
theorem OX.app (ha : Appended w w' B T 1 v v' l.length m.length (l.map byteV) (m.map byteV)) : OX v w v' w' :=
 ⟨ExtQ.grown ha.grown fun k hk => hk, fun k hk => by
  rcases ha.at_ with q | q
  · rw [q] at hk; exact .inl hk
  · rw [q] at hk; injection hk with hk; exact .inr (by omega)⟩
end
end Go.Ox
namespace Go.Proofs.YtpmpjjhchkoboaaGreatDoor
open Go.RowKit Go.Ox Go.Ox.Gr Go.Ox.Sc
attribute [local irreducible] RE OE OB RB NodesR EpR InsR ActsR RP
end Go.Proofs.YtpmpjjhchkoboaaGreatDoor
namespace Go.Proofs.YtpmpjjhchkoboaaGreatDoor
open Go.RowKit Go.Ox Go.Ox.Gr Go.Ox.Sc
theorem bs_eq26 (l : List UInt8) : ((⟨l.toArray⟩ : ByteArray) == ⟨l.toArray⟩) = true := by first | exact beq_self_eq_true _ | (rw [str_eq]; simp) | (show decide (_ = _) = true; exact decide_eq_true rfl)
theorem EqP.is26 {α : Type} {x y : α} {b : Bool} (hb : b = true ↔ x = y) {w w' : World} {e : Ending} (h : EqP x y w e w') : e = .returned (.bool b) ∧ Ext w w' := by
 obtain ⟨c, rfl, hc, he⟩ := h
 obtain rfl : c = b := by rw [Bool.eq_iff_iff, hc, hb]
 exact ⟨rfl, he⟩
attribute [local irreducible] RE OE RB OB NodesR EpR InsR ActsR RP
end Go.Proofs.YtpmpjjhchkoboaaGreatDoor
namespace Go.Ox.Sc
open Go.Ox.Num (St numP bytesP)
open Go.Ox.Gr (PS)
attribute [local irreducible] Num.numP Num.bytesP
def rres (o : Option Sc) : Sc := o.getD scZ
theorem rres_dec (b : List UInt8) : rres (decR b) = sres (decP b) ∧ (decR b).isSome = (decP b).2 := by
 rw [dec_same]
 unfold rres sres
 by_cases h : (decP b).2 = true
 · rw [if_pos h, if_pos h, h]; exact ⟨rfl, rfl⟩
 · rw [if_neg h, if_neg h]
   exact ⟨rfl, by cases h2 : (decP b).2 with | true => exact absurd h2 h | false => rfl⟩
noncomputable def k2 (cf : Int × Int × Int × Int) (g : Gr.G) (il : List (List Bag)) (A : St × List Act) : Option Sc :=
 if A.1.bad = true ∨ A.1.l ≠ [] ∨ scOk ⟨cf, g, il, A.2⟩ = false then none else some ⟨cf, g, il, A.2⟩
noncomputable def k1 (cf : Int × Int × Int × Int) (g : Gr.G) (I : St × List (List Bag)) : Option Sc := (rowR 256 actR I.1).bind (k2 cf g I.2)
theorem decR_eq (b : List UInt8) : decR b = if (Gr.getR (partR (numP (numP (numP (numP ⟨b, false⟩).1).1).1).1).2).2 = true then
 (rowR 16 epR (partR (numP (numP (numP (numP ⟨b, false⟩).1).1).1).1).1).bind (k1 (((numP ⟨b, false⟩).2 : Int), ((numP (numP ⟨b, false⟩).1).2 : Int), ((numP (numP (numP ⟨b, false⟩).1).1).2 : Int), ((numP (numP (numP (numP ⟨b, false⟩).1).1).1).2 : Int)) (Gr.gres (Gr.getR (partR (numP (numP (numP (numP ⟨b, false⟩).1).1).1).1).2))) else none := by
 have hs : seqR 4 ⟨b, false⟩ = ((numP (numP (numP (numP ⟨b, false⟩).1).1).1).1, [((numP ⟨b, false⟩).2 : Int), ((numP (numP ⟨b, false⟩).1).2 : Int), ((numP (numP (numP ⟨b, false⟩).1).1).2 : Int), ((numP (numP (numP (numP ⟨b, false⟩).1).1).1).2 : Int)]) := rfl
 unfold decR
 rw [hs]
 dsimp only
 rw [show ∀ a b c d : Int, cfg4 [a, b, c, d] = (a, b, c, d) from fun _ _ _ _ => rfl]
 generalize partR (numP (numP (numP (numP ⟨b, false⟩).1).1).1).1 = p
 generalize Gr.getR p.2 = G
 by_cases h : G.2 = true
 · rw [if_pos h, if_pos h]
   cases rowR 16 epR p.1 with
   | none => rfl
   | some I =>
    unfold k1 k2
    dsimp only [Option.bind]
    cases rowR 256 actR I.1 with
    | none => rfl
    | some A => rfl
 · rw [if_neg h, if_neg h]
def addL {α : Type} (l : List α) (o : Option (St × List α)) : Option (St × List α) := o.map fun r => (r.1, l ++ r.2)
theorem addL_nil {α : Type} (o : Option (St × List α)) : addL [] o = o := by cases o <;> rfl
theorem addL_go {α : Type} {f : St → Option (St × α)} {m : Nat} {s : St} {l : List α} {q : St × α} (h : f s = some q) : addL l (forR f (m + 1) s) = addL (l ++ [q.2]) (forR f m q.1) := by
 rw [forR, h]
 dsimp only
 cases forR f m q.1 with
 | none => rfl
 | some r => simp [addL]
theorem addL_no {α : Type} {f : St → Option (St × α)} {m : Nat} {s : St} {l : List α} (h : f s = none) : addL l (forR f (m + 1) s) = none := by
 rw [forR, h]; rfl
theorem addL_done {α : Type} {f : St → Option (St × α)} {s : St} {l : List α} : addL l (forR f 0 s) = some (s, l) := by simp [addL, forR]
theorem forR_num : ∀ (n : Nat) (s : St), forR numR n s = some (seqR n s)
 | 0, s => rfl
 | n + 1, s => by rw [forR, numR]; dsimp only; rw [forR_num n]; rfl
theorem seqR_5 (s : St) : seqR 5 s = ((numP (numP (numP (numP (numP s).1).1).1).1).1, [((numP s).2 : Int), ((numP (numP s).1).2 : Int), ((numP (numP (numP s).1).1).2 : Int), ((numP (numP (numP (numP s).1).1).1).2 : Int), ((numP (numP (numP (numP (numP s).1).1).1).1).2 : Int)]) := rfl
def actRP (s : St) : St × Act :=
 ((seqR (countR 256 (numP (numP (numP (numP (numP s).1).1).1).1).1).2 (countR 256 (numP (numP (numP (numP (numP s).1).1).1).1).1).1).1,
  ((((numP s).2 : Int), ((numP (numP s).1).2 : Int), ((numP (numP (numP s).1).1).2 : Int), ((numP (numP (numP (numP s).1).1).1).2 : Int), ((numP (numP (numP (numP (numP s).1).1).1).1).2 : Int)),
   (seqR (countR 256 (numP (numP (numP (numP (numP s).1).1).1).1).1).2 (countR 256 (numP (numP (numP (numP (numP s).1).1).1).1).1).1).2))
theorem actRP_eq (s : St) : actRP s =
 ((seqR (countR 256 (numP (numP (numP (numP (numP s).1).1).1).1).1).2 (countR 256 (numP (numP (numP (numP (numP s).1).1).1).1).1).1).1,
  ((((numP s).2 : Int), ((numP (numP s).1).2 : Int), ((numP (numP (numP s).1).1).2 : Int), ((numP (numP (numP (numP s).1).1).1).2 : Int), ((numP (numP (numP (numP (numP s).1).1).1).1).2 : Int)),
   (seqR (countR 256 (numP (numP (numP (numP (numP s).1).1).1).1).1).2 (countR 256 (numP (numP (numP (numP (numP s).1).1).1).1).1).1).2)) := rfl
theorem actR_eq (s : St) : actR s = some (actRP s) := by
 unfold actR rowR
 rw [seqR_5, forR_num]
 rfl
theorem bagR_eq (s : St) : bagR s = if Rec.decE (bytesP ((numP s).2 : Int) (numP s).1).2 = 0 then some ((bytesP ((numP s).2 : Int) (numP s).1).1, Rec.decL (bytesP ((numP s).2 : Int) (numP s).1).2) else none := rfl
theorem epR_eq (s : St) : epR s = forR bagR (countR 4 s).2 (countR 4 s).1 := rfl
theorem seqR_go (m : Nat) (s : St) : seqR (m + 1) s = ((seqR m (numP s).1).1, ((numP s).2 : Int) :: (seqR m (numP s).1).2) := rfl
theorem countR_len (most : Int) (s : St) : (countR most s).1.l.length ≤ s.l.length := by
 unfold countR
 have := Num.numP_len s
 split <;> exact this
theorem countR_le {most : Int} (h0 : 0 ≤ most) (s : St) : ((countR most s).2 : Int) ≤ most := by
 unfold countR
 split
 · simpa using h0
 · rename_i h; omega
theorem bytesP_short (n : Nat) (s : St) : (bytesP (n : Int) s).2.length ≤ s.l.length := by
 by_cases hn : s.bad = true ∨ (n : Int) < 0 ∨ ((s.l.length : Nat) : Int) < (n : Int)
 · rw [Num.bytesP_no hn]; simp
 · have hb : s.bad = false := by cases h0 : s.bad with | true => exact absurd (.inl h0) hn | false => rfl
   rw [Num.bytesP_yes hb (by omega)]
   simp
   omega
theorem decL_short (b : List UInt8) : (Rec.decL b).length ≤ 4096 := by
 unfold Rec.decL
 split
 · rename_i h
   have h1 := (Classical.choose_spec h).back
   have h2 := (Rec.may_ok h1.1).2
   omega
 · simp
end Go.Ox.Sc
namespace Go.Proofs.YtpmpjjhchkoboaaGreatDoor
open Go.RowKit Go.Ox Go.Ox.Gr Go.Ox.Sc
set_option maxHeartbeats 2000000 in
theorem rcount_sc (K : Nat → Prop) (g : Nat) (most : Int) (s : Num.St) (w : World) (h : RR K w g s) (hl : s.l.length ≤ 1000000) :
 Calls Tryz.prog 65 #[.pointer (some ⟨g, 0, none⟩), .int .i64 most] w fun e w' => e = .returned (.int .i64 ((countR most s).2 : Nat)) ∧ RR K w' g (countR most s).1 ∧ ExtG g w w' := by
 have HN := hid (rnum_any g s w h hl)
 have HP := hid (show countR most s = if most < ((Num.numP s).2 : Int) then (⟨(Num.numP s).1.l, true⟩, 0) else Num.numP s from rfl)
 generalize Num.numP s = t at *
 obtain ⟨s1, n⟩ := t
 dsimp only at *
 generalize countR most s = R at *
 clear h hl
 go_enter Tryz.func65, Tryz.ntmps65
 go_wp2_with fail
 refine HN.out.mono ?_
 rintro e w1 ⟨rfl, hr1, he1⟩
 by_cases hm : most < (n : Int)
 · have hb : decide ((n : Int) > most) = true := by simpa using hm
   rw [if_pos hm] at HP
   obtain ⟨m1, m2, m3⟩ := hr1.mark
   have HM := hid (hr1.setMark true)
   have HE := hid he1
   obtain rfl := HP.out
   clear hm hr1 he1
   go_wp2
   go_ret
   exact ⟨rfl, HM.out.1, HE.out.trans HM.out.2⟩
 · have hb : decide ((n : Int) > most) = false := by simpa using hm
   rw [if_neg hm] at HP
   have HR1 := hid hr1
   have HE := hid he1
   obtain rfl := HP.out
   clear hm hr1 he1
   go_wp2
   go_ret
   exact ⟨rfl, HR1.out, HE.out⟩
end Go.Proofs.YtpmpjjhchkoboaaGreatDoor
