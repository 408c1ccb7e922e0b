/-
  ScrRel, ScLive, ShelfI, ScrR, ScrLine, packed: what the claim needs of them.
-/
import Derived.Test.YtpmpjjhchkoboaaGreatDoorPc19
import Derived.Test.YtpmpjjhchkoboaaGreatDoorPc20
import Derived.Test.YtpmpjjhchkoboaaGreatDoorPc04
import Derived.Test.YtpmpjjhchkoboaaGreatDoorPc06
import Derived.Test.YtpmpjjhchkoboaaGreatDoorPc05
import Derived.Test.YtpmpjjhchkoboaaGreatDoorPc15
import Derived.Test.YtpmpjjhchkoboaaGreatDoorPc16
import Derived.Shelf.SlGeneric
import Derived.Shelf.Strconv.Itoa3
import Derived.Ground.NamesProg
import Derived.Test.YtpmpjjhchkoboaaGreatDoorProg
import Derived.Deep.DeepCutAuto
import Derived.Test.YtpmpjjhchkoboaaGreatDoorPc10
import Derived.Test.YtpmpjjhchkoboaaGreatDoorPc11
import Derived.Test.YtpmpjjhchkoboaaGreatDoorPc08
import Derived.Test.YtpmpjjhchkoboaaGreatDoorPc03
import Derived.Test.YtpmpjjhchkoboaaGreatDoorPc18
import Derived.Test.YtpmpjjhchkoboaaGreatDoorPc07
import Derived.Test.YtpmpjjhchkoboaaGreatDoorPc02
import Derived.Lib.AppendIntMem
open Go.Lib (hid)
set_option maxHeartbeats 400000
set_option linter.unusedSimpArgs false
set_option linter.unusedVariables false
set_option maxRecDepth 100000
namespace Go.Ox.Sc
noncomputable def srtE (l : List Bag) : List Bag := l.map Rec.srt
noncomputable def nrm (s : Sc) : Sc := ⟨s.cfg, s.g, s.ins.map srtE, s.acts⟩
end Go.Ox.Sc
namespace Go.Ox.Sc
open Go.RowKit Go.Ox Go.Ox.Gr
def EpR (w : World) (v : Value) (l : List Bag) : Prop := RV (fun w u b => RP w u b) w v l
theorem EpR.ext {w w' : World} {v : Value} {l : List Bag} (h : EpR w v l) (he : Ext w w') : EpR w' v l := RV.ext h (fun _ _ hx => RP.ext hx he) he
theorem EpR.form {w : World} {v : Value} {l : List Bag} (h : EpR w v l) : ∃ A c, v = .slice A l.length c := RV.form h
theorem EpR.nil (w : World) : EpR w (.slice none 0 0) [] := RV.nil _ _
theorem EpR.at_ {w : World} {A : Option Addr} {n c : Nat} {l : List Bag} (h : EpR w (.slice A n c) l) {k : Nat} (hk : k < l.length) :
 ∃ b o u, A = some ⟨b, o, none⟩ ∧ w.cell? ⟨b, o + k, none⟩ = some u ∧ RP w u l[k] := RV.at_ h hk
def InsR (w : World) (v : Value) (l : List (List Bag)) : Prop := RV EpR w v l
theorem InsR.ext {w w' : World} {v : Value} {l : List (List Bag)} (h : InsR w v l) (he : Ext w w') : InsR w' v l := RV.ext h (fun _ _ hx => hx.ext he) he
theorem InsR.form {w : World} {v : Value} {l : List (List Bag)} (h : InsR w v l) : ∃ A c, v = .slice A l.length c := RV.form h
theorem InsR.nil (w : World) : InsR w (.slice none 0 0) [] := RV.nil _ _
theorem InsR.at_ {w : World} {A : Option Addr} {n c : Nat} {l : List (List Bag)} (h : InsR w (.slice A n c) l) {k : Nat} (hk : k < l.length) :
 ∃ b o u, A = some ⟨b, o, none⟩ ∧ w.cell? ⟨b, o + k, none⟩ = some u ∧ EpR w u l[k] := RV.at_ h hk
abbrev actV (a : Act) (u : Value) : List Value := [.int .i64 a.1.1, .int .i64 a.1.2.1, .int .i64 a.1.2.2.1, .int .i64 a.1.2.2.2.1, .int .i64 a.1.2.2.2.2, u]
def ActQ (w : World) (r : List Value) (a : Act) : Prop := ∃ u, r = actV a u ∧ RE w u a.2
theorem ActQ.ext {w w' : World} {r : List Value} {a : Act} (h : ActQ w r a) (he : Ext w w') : ActQ w' r a := by
 obtain ⟨u, h1, h2⟩ := h
 exact ⟨u, h1, RE.ext h2 he⟩
def ActsR (w : World) (v : Value) (l : List Act) : Prop := RS 6 ActQ w v l
theorem ActsR.ext {w w' : World} {v : Value} {l : List Act} (h : ActsR w v l) (he : Ext w w') : ActsR w' v l := RS.ext h (fun _ _ _ hx => hx.ext he) he
theorem ActsR.form {w : World} {v : Value} {l : List Act} (h : ActsR w v l) : ∃ A c, v = .slice A l.length c := RS.form h
theorem ActsR.nil (w : World) : ActsR w (.slice none 0 0) [] := RS.nil _ _ _
theorem ActsR.at_ {w : World} {A : Option Addr} {n c : Nat} {l : List Act} (h : ActsR w (.slice A n c) l) {i : Nat} (hi : i < l.length) :
 ∃ b o u, A = some ⟨b, o, none⟩ ∧ w.cell? ⟨b, o + i * 6, none⟩ = some (.int .i64 l[i].1.1) ∧ w.cell? ⟨b, o + i * 6 + 1, none⟩ = some (.int .i64 l[i].1.2.1) ∧ w.cell? ⟨b, o + i * 6 + 2, none⟩ = some (.int .i64 l[i].1.2.2.1) ∧
  w.cell? ⟨b, o + i * 6 + 3, none⟩ = some (.int .i64 l[i].1.2.2.2.1) ∧ w.cell? ⟨b, o + i * 6 + 4, none⟩ = some (.int .i64 l[i].1.2.2.2.2) ∧ w.cell? ⟨b, o + i * 6 + 5, none⟩ = some u ∧ RE w u l[i].2 := by
 obtain ⟨b, o, r, hA, hr, ⟨u, h1, h2⟩, hc⟩ := RS.at_ h (by omega) hi
 subst h1
 exact ⟨b, o, u, hA, hc 0 _ rfl, hc 1 _ rfl, hc 2 _ rfl, hc 3 _ rfl, hc 4 _ rfl, hc 5 _ rfl, h2⟩
structure ScR (d : Nat) (w : World) (nv iv av : Value) (s : Sc) : Prop where
 n : NodesR d w nv s.g.1
 i : InsR w iv s.ins
 a : ActsR w av s.acts
theorem ScR.ext {d : Nat} {w w' : World} {nv iv av : Value} {s : Sc} (h : ScR d w nv iv av s) (he : Ext w w') : ScR d w' nv iv av s := ⟨h.n.ext he, h.i.ext he, h.a.ext he⟩
theorem ScR.form {d : Nat} {w : World} {nv iv av : Value} {s : Sc} (h : ScR d w nv iv av s) : (∃ A c, nv = .slice A s.g.1.length c) ∧ (∃ A c, iv = .slice A s.ins.length c) ∧ ∃ A c, av = .slice A s.acts.length c := ⟨h.n.form, h.i.form, h.a.form⟩
abbrev scL8 (s : Sc) (nv iv av : Value) : Array Value := #[.int .i64 s.cfg.1, .int .i64 s.cfg.2.1, .int .i64 s.cfg.2.2.1, .int .i64 s.cfg.2.2.2, nv, .int .i64 s.g.2, iv, av]
abbrev scAg (s : Sc) (nv iv av : Value) : Value := .agg (scL8 s nv iv av)
structure ScSm (s : Sc) : Prop where
 ins : s.ins.length ≤ 1000000
 eps : ∀ l ∈ s.ins, l.length ≤ 1000000 ∧ ∀ b ∈ l, b.length ≤ 1000000
 acts : s.acts.length ≤ 1000000
 keeps : ∀ a ∈ s.acts, a.2.length ≤ 1000000
end Go.Ox.Sc
namespace Go.Ox.Sc
open Go.Ox.Num (St numP bytesP)
open Go.Ox.Gr (PS bd numsL okI numC bd_mk)
theorem dec_more {s : Sc} (h : Canon s) (hg : (Gr.grL s.g).length < 9223372036854775808) (r : List UInt8) (hr : r ≠ []) : (decP (scL s ++ r)).2 = false := by
 obtain ⟨h0, hs⟩ := h
 obtain ⟨h1, h2, h3, h4, h5, h6⟩ := scOk_parts h0
 obtain ⟨cfg, g, ins, acts⟩ := s
 dsimp only at *
 have hc := seq_put (cfgN cfg) (partL (Gr.grL g) ++ (Num.put ins.length ++ ins.flatMap epL ++ (Num.put acts.length ++ acts.flatMap actL ++ r))) fun x hx => inR_ok (h1 x hx) (by omega)
 have hp := part_put hg (Num.put ins.length ++ ins.flatMap epL ++ (Num.put acts.length ++ acts.flatMap actL ++ r))
 have hG : Gr.getP (Gr.grL g) = (g, true) := Gr.get_put (Gr.gOk_fit (l := g.1) (out := g.2) h2).1 (Gr.gOk_fit (l := g.1) (out := g.2) h2).2 h2
 have hI := row_put (f := epP) (g := epL) (most := 16) (l := ins) (by omega) (by omega) (fun l hl => ep_put (h4 l hl) (hs l hl)) (Num.put acts.length ++ acts.flatMap actL ++ r)
 have hA := row_put (f := actP) (g := actL) (most := 256) (l := acts) (by omega) (by omega) (fun a ha => act_put (h6 a ha)) r
 have e4 : (cfgN cfg).length = 4 := rfl
 rw [e4] at hc
 have hcfg : cfg4 (cfgN cfg) = cfg := rfl
 have hsc : scL ⟨cfg, g, ins, acts⟩ ++ r = numsL (cfgN cfg) ++ (partL (Gr.grL g) ++ (Num.put ins.length ++ ins.flatMap epL ++ (Num.put acts.length ++ acts.flatMap actL ++ r))) := by
  unfold scL
  simp only [List.append_assoc]
 rw [hsc]
 unfold decP
 dsimp only
 have hg0 : (⟨⟨numsL (cfgN cfg) ++ (partL (Gr.grL g) ++ (Num.put ins.length ++ ins.flatMap epL ++ (Num.put acts.length ++ acts.flatMap actL ++ r))), false⟩, false⟩ : PS) = good (numsL (cfgN cfg) ++ (partL (Gr.grL g) ++ (Num.put ins.length ++ ins.flatMap epL ++ (Num.put acts.length ++ acts.flatMap actL ++ r)))) := rfl
 rw [hg0, hc]
 dsimp only
 rw [hp]
 dsimp only
 rw [hG]
 dsimp only
 rw [if_pos rfl, if_pos rfl]
 have hg1 : (⟨(good (Num.put ins.length ++ ins.flatMap epL ++ (Num.put acts.length ++ acts.flatMap actL ++ r))).s, !true⟩ : PS) = good (Num.put ins.length ++ ins.flatMap epL ++ (Num.put acts.length ++ acts.flatMap actL ++ r)) := rfl
 rw [hg1, hI]
 dsimp only
 rw [hA]
 dsimp only
 cases r with
 | nil => exact absurd rfl hr
 | cons x y => unfold good; simp
def liveS : Sc := ⟨(2, 3, 4, 500), (Gr.reachN 3, 2), [[[(1, 2)], []]], [((3, 0, 0, 0, 0), [64, 0]), ((2, 5, 0, 0, 0), [])]⟩
theorem live_ok : scOk liveS = true := by decide +kernel
theorem live_srt1 : Rec.srt [(1, 2)] = [(1, 2)] := (Rec.srt_is (by unfold Rec.Asc Mom.lt; decide) (List.Perm.refl _)).symm
theorem live_srt0 : Rec.srt [] = [] := (Rec.srt_is (by unfold Rec.Asc Mom.lt; decide) (List.Perm.refl _)).symm
theorem live_canon : Canon liveS := ⟨live_ok, fun l hl b hb => by
 have hl : l = [[(1, 2)], []] := by simpa [liveS] using hl
 subst hl
 simp at hb
 rcases hb with rfl | rfl
 · exact live_srt1
 · exact live_srt0⟩
theorem live_sm : ScSm liveS := ⟨by decide, fun l hl => by
 have hl : l = [[(1, 2)], []] := by simpa [liveS] using hl
 subst hl
 exact ⟨by decide, fun b hb => by simp at hb; rcases hb with rfl | rfl <;> decide⟩, by decide, fun a ha => by
 have ha : a = ((3, 0, 0, 0, 0), [64, 0]) ∨ a = ((2, 5, 0, 0, 0), []) := by simpa [liveS] using ha
 rcases ha with rfl | rfl <;> decide⟩
theorem live_gsm : Gr.Sm 4 liveS.g.1 := Gr.Sm.of_deep (by decide +kernel)
theorem live_len : (scL liveS).length ≤ 999999 := by
 have := scL_len (s := liveS) (c := 1) live_ok (fun l hl b hb => by
  have hl : l = [[(1, 2)], []] := by simpa [liveS] using hl
  subst hl
  simp at hb
  rcases hb with rfl | rfl <;> decide)
 omega
theorem zero_bad : scOk ⟨(0, 0, 0, 0), ([], 0), [], []⟩ = false := by decide +kernel
end Go.Ox.Sc
namespace Go.Proofs.YtpmpjjhchkoboaaGreatDoor
open Go.Shelf Go.Proofs
def Tryz.itoaL_ren : Go.Shelf.Ren := ⟨fun | 171 => 114 | 243 => 136 | 246 => 151 | 283 => 165 | 284 => 166 | 285 => 167 | 286 => 168 | 129 => 161 | 317 => 176 | 318 => 177 | 319 => 178 | 320 => 179 | 337 => 182 | 338 => 183 | n => n, fun | 3 => 3 | 9 => 9 | 2 => 2 | 4 => 4 | 171 => 190 | 0 => 0 | 53 => 159 | 37 => 33 | 5 => 5 | 173 => 192 | 212 => 202 | 51 => 187 | 20 => 20 | 213 => 203 | 46 => 138 | 232 => 208 | 233 => 209 | n => n, fun | 17 => 0 | 18 => 1 | 19 => 2 | n => n⟩
theorem Tryz.itoaL : Go.Proofs.LaysM.n171 Tryz.prog Tryz.itoaL_ren := {
 mixed := by kernel_rfl
 f129 := Tryz.func161.trans (congrArg some (by kernel_rfl))
 f171 := Tryz.func114.trans (congrArg some (by kernel_rfl))
 f243 := Tryz.func136.trans (congrArg some (by kernel_rfl))
 f246 := Tryz.func151.trans (congrArg some (by kernel_rfl))
 f283 := Tryz.func165.trans (congrArg some (by kernel_rfl))
 f284 := Tryz.func166.trans (congrArg some (by kernel_rfl))
 f285 := Tryz.func167.trans (congrArg some (by kernel_rfl))
 f286 := Tryz.func168.trans (congrArg some (by kernel_rfl))
 f317 := Tryz.func176.trans (congrArg some (by kernel_rfl))
 f318 := Tryz.func177.trans (congrArg some (by kernel_rfl))
 f319 := Tryz.func178.trans (congrArg some (by kernel_rfl))
 f320 := Tryz.func179.trans (congrArg some (by kernel_rfl))
 f337 := Tryz.func182.trans (congrArg some (by kernel_rfl))
 f338 := Tryz.func183.trans (congrArg some (by kernel_rfl))
 t0 := Tryz.underlying0
 a0 := Tryz.isAgg0
 z0 := Tryz.sizeOf0
 v0 := Tryz.zeroValue0
 t2 := Tryz.underlying2
 a2 := Tryz.isAgg2
 z2 := Tryz.sizeOf2
 v2 := Tryz.zeroValue2
 t3 := Tryz.underlying3
 a3 := Tryz.isAgg3
 z3 := Tryz.sizeOf3
 v3 := Tryz.zeroValue3
 t4 := Tryz.underlying4
 a4 := Tryz.isAgg4
 z4 := Tryz.sizeOf4
 v4 := Tryz.zeroValue4
 t5 := Tryz.underlying5
 a5 := Tryz.isAgg5
 z5 := Tryz.sizeOf5
 v5 := Tryz.zeroValue5
 t9 := Tryz.underlying9
 a9 := Tryz.isAgg9
 z9 := Tryz.sizeOf9
 v9 := Tryz.zeroValue9
 t20 := Tryz.underlying20
 a20 := Tryz.isAgg20
 z20 := Tryz.sizeOf20
 v20 := Tryz.zeroValue20
 t37 := Tryz.underlying33
 a37 := Tryz.isAgg33
 z37 := Tryz.sizeOf33
 v37 := Tryz.zeroValue33
 t46 := Tryz.underlying138
 a46 := Tryz.isAgg138
 z46 := Tryz.sizeOf138
 v46 := Tryz.zeroValue138
 t51 := Tryz.underlying187
 a51 := Tryz.isAgg187
 z51 := Tryz.sizeOf187
 v51 := Tryz.zeroValue187
 t53 := Tryz.underlying159
 a53 := Tryz.isAgg159
 z53 := Tryz.sizeOf159
 v53 := Tryz.zeroValue159
 t171 := Tryz.underlying190
 a171 := Tryz.isAgg190
 z171 := Tryz.sizeOf190
 v171 := Tryz.zeroValue190
 t173 := Tryz.underlying192
 a173 := Tryz.isAgg192
 z173 := Tryz.sizeOf192
 v173 := Tryz.zeroValue192
 t212 := Tryz.underlying202
 a212 := Tryz.isAgg202
 z212 := Tryz.sizeOf202
 v212 := Tryz.zeroValue202
 t213 := Tryz.underlying203
 a213 := Tryz.isAgg203
 z213 := Tryz.sizeOf203
 t232 := Tryz.underlying208
 a232 := Tryz.isAgg208
 z232 := Tryz.sizeOf208
 v232 := Tryz.zeroValue208
 t233 := Tryz.underlying209
 a233 := Tryz.isAgg209
 z233 := Tryz.sizeOf209
 v233 := Tryz.zeroValue209
 g17 := by kernel_rfl
 g18 := by kernel_rfl
 g19 := by kernel_rfl
 i0 := by kernel_rfl
 i2 := by kernel_rfl
 i3 := by kernel_rfl
 i4 := by kernel_rfl
 i5 := by kernel_rfl
 i9 := by kernel_rfl
 i20 := by kernel_rfl
 i37 := by kernel_rfl
 i46 := by kernel_rfl
 i51 := by kernel_rfl
 i53 := by kernel_rfl
 i171 := by kernel_rfl
 i173 := by kernel_rfl
 i212 := by kernel_rfl
 i232 := by kernel_rfl
 i233 := by kernel_rfl
 m17 := by kernel_rfl
 m18 := by kernel_rfl
 m19 := by kernel_rfl }
end Go.Proofs.YtpmpjjhchkoboaaGreatDoor
namespace Go.Proofs.YtpmpjjhchkoboaaGreatDoor
open Go.RowKit Go.Ox Go.Ox.Gr Go.Ox.Sc
attribute [local irreducible] RE OE NodesR RB OB
theorem rnumber_any (x : Int) (w : World) : Calls Tryz.prog 35 #[.int .i64 x] w fun e w' => e = .returned (.bool (inR x 1073741824)) ∧ w = w' := by
 unfold inR
 by_cases h : 0 ≤ x
 · rw [decide_eq_true h, Bool.true_and]
   go_enter Tryz.func35, Tryz.ntmps35
   go_wp2
   go_ret
   exact ⟨rfl, rfl⟩
 · rw [decide_eq_false h, Bool.false_and]
   go_enter Tryz.func35, Tryz.ntmps35
   go_wp2
   go_ret
   exact ⟨rfl, rfl⟩
set_option maxHeartbeats 4000000 in
theorem actMay_any (k n a b t : Int) (u : Value) (ks : List Int) (w : World) (hu : RE w u ks) :
 Calls Tryz.prog 38 #[.agg #[.int .i64 k, .int .i64 n, .int .i64 a, .int .i64 b, .int .i64 t, u]] w fun e w' => e = .returned (.bool (actOk ((k, n, a, b, t), ks))) ∧ Ext w w' := by
 have HR := hid (show actOk ((k, n, a, b, t), ks) = (decide (1 ≤ k) && decide (k ≤ 5) && inR n 65536 && inR a 65536 && inR b 480 && inR t 4294967295 && decide (ks.length ≤ 256) && ks.all fun k => inR k 64) from rfl)
 generalize actOk ((k, n, a, b, t), ks) = res at *
 have HX := hid ((Ext.refl w).alloc (.cells #[.int .i64 k, .int .i64 n, .int .i64 a, .int .i64 b, .int .i64 t, u] 47))
 have HB := hid (Bx6.new w 47 (.int .i64 k) (.int .i64 n) (.int .i64 a) (.int .i64 b) (.int .i64 t) u)
 have HU := hid (RE.ext hu HX.out)
 obtain ⟨A, c, rfl⟩ := hu.form
 clear hu
 go_enter Tryz.func38, Tryz.ntmps38
 go_upto_region 1 with fail
 generalize w.heap.size = p at *
 generalize w.alloc (.cells #[.int .i64 k, .int .i64 n, .int .i64 a, .int .i64 b, .int .i64 t, .slice A ks.length c] 47) = w0 at *
 obtain ⟨c0, c1, c2, c3, c4, c5⟩ := HB.out.at_
 obtain ⟨t1, ht1⟩ : ∃ t1, t1 = !(decide (1 ≤ k) && decide (k ≤ 5) && inR n 65536 && inR a 65536 && inR b 480 && inR t 4294967295 && decide (ks.length ≤ 256)) := ⟨_, rfl⟩
 have HT := hid ht1
 clear ht1
 go_cut [57] (fun s57 wx => s57 = .bool t1 ∧ wx = w0)
 case first =>
  clear HU HX HB HR
  go_wp2
  all_goals go_meet
  all_goals refine ⟨congrArg Value.bool ?_, by first | trivial | rfl⟩
  all_goals rw [HT.out, Bool.eq_iff_iff]
  all_goals unfold inR
  all_goals simp
  all_goals omega
 case rest =>
 obtain ⟨rfl, hwx⟩ := hcut
 subst hwx
 rename World => w1
 cases t1 with
 | true =>
  have HF := hid (show res = false from by
   have h := HT.out.symm
   rw [HR.out]
   generalize (decide (1 ≤ k) && decide (k ≤ 5) && inR n 65536 && inR a 65536 && inR b 480 && inR t 4294967295 && decide (ks.length ≤ 256)) = z at *
   cases z with
   | true => cases h
   | false => rfl)
  obtain rfl : res = false := HF.out
  go_wp2
  go_ret
  exact ⟨rfl, HX.out⟩
 | false =>
  have HQ := hid (show ks.length ≤ 256 ∧ res = ks.all fun k => inR k 64 from by
   have h := HT.out.symm
   rw [HR.out]
   have h2 : (decide (1 ≤ k) && decide (k ≤ 5) && inR n 65536 && inR a 65536 && inR b 480 && inR t 4294967295 && decide (ks.length ≤ 256)) = true := by
    generalize (decide (1 ≤ k) && decide (k ≤ 5) && inR n 65536 && inR a 65536 && inR b 480 && inR t 4294967295 && decide (ks.length ≤ 256)) = z at *
    cases z with
    | true => rfl
    | false => cases h
   rw [h2]
   simp only [Bool.and_eq_true, decide_eq_true_eq] at h2
   exact ⟨h2.2, rfl⟩)
  clear HT HR c0 c1 c2 c3 c4 c5
  go_wp2
  go_loopw [3] (fun iv wr => ∃ j : Nat, j ≤ ks.length ∧ iv = .int .i64 (j : Int) ∧ (ks.take j).all (fun k => inR k 64) = true ∧ wr = w1) (fun iv _ => ks.length - (intOf iv).toNat)
  case atStart => exact ⟨0, Nat.zero_le _, rfl, rfl, rfl⟩
  case round =>
   obtain ⟨j, hj, rfl, hp, hwr⟩ := hrel
   subst hwr
   rename World => wr
   have HP := hid hp
   have hj2 : j ≤ 256 := by have := HQ.out.1; omega
   obtain ⟨c0, c1, c2, c3, c4, c5⟩ := HB.out.at_
   clear hp
   by_cases hlt : j < ks.length
   · have q1 : (j : Int) < (ks.length : Int) := by omega
     have q0 : 0 ≤ (j : Int) := by omega
     have q1n : j < ks.length := hlt
     have HLT := hid hlt
     obtain ⟨bI, oI, rfl, z0⟩ := ri1 HU.out hlt
     have HS := hid (show (ks.take (j + 1)).all (fun k => inR k 64) = inR ks[j] 64 from by rw [List.take_succ_eq_append_getElem hlt, List.all_append, HP.out, Bool.true_and]; exact Bool.and_true _)
     have HBAD := hid (show inR ks[j] 64 = false → res = false from fun h => by
      rw [HQ.out.2]
      cases hx : ks.all fun k => inR k 64 with
      | false => rfl
      | true =>
       have hx2 : inR ks[j] 64 = true := List.all_eq_true.1 hx _ (List.getElem_mem hlt)
       exact absurd (hx2.symm.trans h) (by simp))
     generalize ks[j] = x at *
     clear hlt hj
     by_cases x0 : x < 0
     · obtain rfl : res = false := HBAD.out (by unfold inR; rw [decide_eq_false (by omega), Bool.false_and])
       go_wp2
       go_ret
       exact ⟨rfl, HX.out⟩
     by_cases x1 : x > 64
     · obtain rfl : res = false := HBAD.out (by unfold inR; rw [decide_eq_false (show ¬ x ≤ 64 by omega), Bool.and_false])
       go_wp2
       go_ret
       exact ⟨rfl, HX.out⟩
     have HA := hid (show inR x 64 = true by unfold inR; rw [decide_eq_true (show 0 ≤ x by omega), decide_eq_true (show x ≤ 64 by omega)]; rfl)
     go_wp2
     exact ⟨⟨j + 1, HLT.out, by go_num, by rw [HS.out, HA.out], by first | trivial | rfl⟩, by have := HLT.out; simp [intOf]; omega⟩
   · obtain rfl : j = ks.length := by omega
     have q1 : ¬ (ks.length : Int) < (ks.length : Int) := by omega
     rw [List.take_length] at HP
     obtain rfl : res = true := by rw [HQ.out.2, HP.out]
     clear hj hlt
     go_wp2
     go_ret
     exact ⟨rfl, HX.out⟩
end Go.Proofs.YtpmpjjhchkoboaaGreatDoor
namespace Go.Ox
open Go.RowKit
abbrev strV (l : List UInt8) : Value := .string ⟨l.toArray⟩
theorem str_add (a b : List UInt8) : (⟨a.toArray⟩ : ByteArray) ++ ⟨b.toArray⟩ = ⟨(a ++ b).toArray⟩ := by
 apply ByteArray.ext
 simp
end Go.Ox
namespace Go.Proofs.YtpmpjjhchkoboaaGreatDoor
open Go.RowKit Go.Ox Go.Ox.Gr Go.Ox.Sc Go.Shelf
abbrev Tab (w : World) : Prop := Lib.TabIs Tryz.prog w "internal/strconv.uint64pow10" .u64 Lib.pow10Tab
theorem Tab.ext {w w' : World} (h : Tab w) (he : Ext w w') : Tab w' := Lib.tabBelow_of_tabIs h w' he
theorem itoa_any (n : Nat) (hn : n < 9223372036854775808) (w : World) (ht : Tab w) : Calls Tryz.prog 114 #[.int .i64 (n : Int)] w fun e w' => e = .returned (strV (Lib.decDigits n)) ∧ Ext w w' := by
 have h := Any.strconv_Itoa Tryz.itoaL (n : Int) (by omega) (by omega) w ht
 refine h.mono ?_
 rintro e w' ⟨rfl, k, os, rfl⟩
 refine ⟨?_, ?_⟩
 · have : Lib.itoa (n : Int) = Lib.decDigits n := by unfold Lib.itoa; rw [if_neg (by omega)]; rfl
   rw [this]
 · exact GrownW.ext ⟨k, os, rfl⟩
attribute [local irreducible] RE OE
theorem add_str {P : Program} {t : TypeId} (a b : List UInt8) (w : World) (h : a.length + b.length ≤ 9000000000000000000) : (Op.stringOp .add ⟨a.toArray⟩ ⟨b.toArray⟩).run P w = .ok (strV (a ++ b)) w := by
 have hs : ¬ ((((⟨a.toArray⟩ : ByteArray).size + (⟨b.toArray⟩ : ByteArray).size : Nat) : Int) > IntKind.i64.max) := by
  show ¬ (((a.length + b.length : Nat) : Int) > 9223372036854775807)
  omega
 unfold Op.stringOp
 simp only []
 rw [if_neg hs, str_add]
 rfl
theorem dec_step {m : Nat} (h : ¬ m < 10) : Lib.decDigits m = Lib.decDigits (m / 10) ++ [UInt8.ofNat (48 + m % 10)] := by rw [Lib.decDigits, dif_neg h]
theorem dec_small {m : Nat} (h : m < 10) : Lib.decDigits m = [UInt8.ofNat (48 + m)] := by rw [Lib.decDigits, dif_pos h]
theorem dec_len : ∀ {m : Nat}, m < 9223372036854775808 → (Lib.decDigits m).length ≤ 20 := by
 have h : ∀ (k : Nat) (m : Nat), m < 10 ^ (k + 1) → (Lib.decDigits m).length ≤ k + 1 := by
  intro k
  induction k with
  | zero => intro m hm; rw [dec_small (by omega)]; simp
  | succ k ih =>
   intro m hm
   by_cases hs : m < 10
   · rw [dec_small hs]; simp
   · rw [dec_step hs, List.length_append]
     have := ih (m / 10) (by rw [Nat.pow_succ] at hm; omega)
     simp; omega
 intro m hm
 exact h 19 m (by omega)
set_option maxHeartbeats 4000000 in
theorem line_any (wd : List UInt8) (u : Value) (l : List Int) (w : World) (hu : RE w u l) (hl : l.length ≤ 100000) (hw : wd.length ≤ 100) (hok : ∀ x ∈ l, 0 ≤ x ∧ x < 9223372036854775808) (ht : Tab w) :
 Calls Tryz.prog 67 #[strV wd, u] w fun e w' => e = .returned (strV (wd ++ l.flatMap fun x => 32 :: Lib.decDigits x.toNat)) ∧ Ext w w' := by
 obtain ⟨A, c, rfl⟩ := hu.form
 have HU := hid hu
 have HL := hid hl
 have HW := hid hw
 have HT := hid ht
 have HOK := hid (fun (k : Nat) (h : k < l.length) => hok l[k] (List.getElem_mem h))
 have HLN := hid (show ∀ k, (wd ++ (l.take k).flatMap fun x => 32 :: Lib.decDigits x.toNat).length ≤ 10000000 from fun k => by
  have h1 := flat_le (fun (x : Int) => 32 :: Lib.decDigits x.toNat) 21 (l.take k) (fun x hx => by
   have h := hok x (List.mem_of_mem_take hx)
   have := dec_len (m := x.toNat) (by omega)
   simp; omega)
  have h2 : (l.take k).length * 21 ≤ 100000 * 21 := Nat.mul_le_mul_right _ (by rw [List.length_take]; omega)
  rw [List.length_append]; omega)
 clear hu hl hw hok ht
 go_enter Tryz.func67, Tryz.ntmps67
 go_wp2
 go_loopw [0, 9] (fun sv iv wr => ∃ k : Nat, k ≤ l.length ∧ iv = .int .i64 (k : Int) ∧ sv = strV (wd ++ (l.take k).flatMap fun x => 32 :: Lib.decDigits x.toNat) ∧ Ext w wr) (fun _ iv _ => l.length - (intOf iv).toNat)
 case atStart => exact ⟨0, Nat.zero_le _, rfl, by simp, Ext.refl _⟩
 case round =>
  obtain ⟨k, hk, rfl, rfl, hext⟩ := hrel
  have HE := hid hext
  have hk1 : k ≤ 100000 := by have := HL.out; omega
  by_cases hlt : k < l.length
  · have q1 : (k : Int) < (l.length : Int) := by omega
    have q0 : 0 ≤ (k : Int) := by omega
    have q1n : k < l.length := hlt
    have HLT := hid hlt
    obtain ⟨bI, oI, rfl, z0⟩ := ri1 (RE.ext HU.out hext) hlt
    have HK := hid (HOK.out k hlt)
    have HLK := hid (HLN.out k)
    have HS := hid (show (wd ++ (l.take (k + 1)).flatMap fun x => 32 :: Lib.decDigits x.toNat) = (wd ++ (l.take k).flatMap fun x => 32 :: Lib.decDigits x.toNat) ++ (32 :: Lib.decDigits l[k].toNat) from by
     rw [List.take_succ_eq_append_getElem hlt, List.flatMap_append, List.append_assoc]
     simp
     try rfl)
    generalize l[k] = x at *
    obtain ⟨y, hy⟩ : ∃ y : Nat, x = (y : Int) := ⟨x.toNat, by have := HK.out.1; omega⟩
    subst hy
    rw [show ((y : Int)).toNat = y from rfl] at HS
    generalize (wd ++ (l.take k).flatMap fun x => 32 :: Lib.decDigits x.toNat) = lk at *
    have HI := hid (itoa_any y (by have := HK.out.2; omega) _ (HT.out.ext hext))
    have HDL := hid (dec_len (m := y) (by have := HK.out.2; omega))
    generalize Lib.decDigits y = dy at *
    have ha1 := fun w => add_str (P := Tryz.prog) (t := 9) [32] dy w (by have := HDL.out; simp; omega)
    have ha2 := fun w => add_str (P := Tryz.prog) (t := 9) lk (32 :: dy) w (by have := HDL.out; have := HLK.out; simp; omega)
    clear hext hlt hk
    go_wp2_with fail
    refine HI.out.mono ?_
    rintro e w1 ⟨rfl, he1⟩
    have HX := hid (HE.out.trans he1)
    clear he1 z0
    go_wp2
    exact ⟨⟨k + 1, HLT.out, by go_num, by rw [HS.out], HX.out⟩, by have := HLT.out; simp [intOf]; omega⟩
  · obtain rfl : k = l.length := by omega
    have q1 : ¬ (l.length : Int) < (l.length : Int) := by omega
    rw [List.take_length]
    clear hext hlt hk
    go_wp2
    go_ret
    exact ⟨rfl, HE.out⟩
def actS (a : Sc.Act) : List UInt8 :=
 if actOk a = true then
  if a.1.1 = 1 then [112, 105, 99, 107] ++ ([a.1.2.1, a.1.2.2.1].flatMap fun x => 32 :: Lib.decDigits x.toNat)
  else if a.1.1 = 2 then [115, 116, 111, 112] ++ ([a.1.2.1].flatMap fun x => 32 :: Lib.decDigits x.toNat)
  else if a.1.1 = 3 then [99, 114, 97, 115, 104] ++ (a.2.flatMap fun x => 32 :: Lib.decDigits x.toNat)
  else if a.1.1 = 4 then [102, 108, 105, 112] ++ ([a.1.2.2.1, a.1.2.1, a.1.2.2.2.1, a.1.2.2.2.2].flatMap fun x => 32 :: Lib.decDigits x.toNat)
  else [114, 117, 110] ++ ([a.1.2.1, a.1.2.2.1].flatMap fun x => 32 :: Lib.decDigits x.toNat)
 else []
theorem actOk_nums {k n a b t : Int} {ks : List Int} (h : actOk ((k, n, a, b, t), ks) = true) : (1 ≤ k ∧ k ≤ 5) ∧ (0 ≤ n ∧ n < 9223372036854775808) ∧ (0 ≤ a ∧ a < 9223372036854775808) ∧ (0 ≤ b ∧ b < 9223372036854775808) ∧ (0 ≤ t ∧ t < 9223372036854775808) ∧ ks.length ≤ 256 ∧ ∀ x ∈ ks, 0 ≤ x ∧ x < 9223372036854775808 := by
 unfold actOk inR at h
 simp only [Bool.and_eq_true, decide_eq_true_eq, List.all_eq_true] at h
 obtain ⟨⟨⟨⟨⟨⟨⟨h1, h2⟩, h3⟩, h4⟩, h5⟩, h6⟩, h7⟩, h8⟩ := h
 exact ⟨⟨h1, h2⟩, by omega, by omega, by omega, by omega, h7, fun x hx => by have := h8 x hx; omega⟩
theorem sact_ints (l : List Int) (w : World) (cs : Array Value) (n : Nat) (hn : l.length = n) (hm : n ≤ 1000000) (h : cs.toList = eV l) : RE (w.alloc (.cells cs 3)) (.slice (some ⟨w.heap.size, 0, none⟩) n n) l := RE.lit w cs 3 n l hn hm h
set_option maxHeartbeats 4000000 in
theorem sAct_any (k n a b t : Int) (u : Value) (ks : List Int) (w : World) (hu : RE w u ks) (hl : ks.length ≤ 1000000) (ht : Tab w) :
 Calls Tryz.prog 16 #[actAg k n a b t u] w fun e w' => e = .returned (strV (actS ((k, n, a, b, t), ks))) ∧ Ext w w' := by
 have HX := hid ((Ext.refl w).alloc (actCs k n a b t u))
 have HB := hid (Bx6.new w 47 (.int .i64 k) (.int .i64 n) (.int .i64 a) (.int .i64 b) (.int .i64 t) u)
 have HU := hid (RE.ext hu HX.out)
 have HT := hid (ht.ext HX.out)
 have HC := hid (fun w h => act_any k n a b t u ks w h hl)
 have HN := hid (fun h => @actOk_nums k n a b t ks h)
 have HR := hid (show actS ((k, n, a, b, t), ks) = if actOk ((k, n, a, b, t), ks) = true then
  if k = 1 then [112, 105, 99, 107] ++ ([n, a].flatMap fun x => 32 :: Lib.decDigits x.toNat)
  else if k = 2 then [115, 116, 111, 112] ++ ([n].flatMap fun x => 32 :: Lib.decDigits x.toNat)
  else if k = 3 then [99, 114, 97, 115, 104] ++ (ks.flatMap fun x => 32 :: Lib.decDigits x.toNat)
  else if k = 4 then [102, 108, 105, 112] ++ ([a, n, b, t].flatMap fun x => 32 :: Lib.decDigits x.toNat)
  else [114, 117, 110] ++ ([n, a].flatMap fun x => 32 :: Lib.decDigits x.toNat)
 else [] from rfl)
 generalize actS ((k, n, a, b, t), ks) = res at *
 generalize actOk ((k, n, a, b, t), ks) = ok at *
 obtain ⟨A, c, rfl⟩ := hu.form
 clear hu hl ht
 go_enter Tryz.func16, Tryz.ntmps16
 go_upto_region 1 with fail
 generalize w.heap.size = p at *
 generalize w.alloc (actCs k n a b t (.slice A ks.length c)) = w0 at *
 obtain ⟨c0, c1, c2, c3, c4, c5⟩ := HB.out.at_
 go_wp2_with fail
 refine (HC.out _ HU.out).mono ?_
 rintro e w1 ⟨rfl, he1⟩
 have HX1 := hid (HX.out.trans he1)
 have HT1 := hid (HT.out.ext he1)
 have HB1 := hid (HB.out.ext he1)
 have HU1 := hid (RE.ext HU.out he1)
 clear he1 c0 c1 c2 c3 c4 c5
 obtain ⟨c0, c1, c2, c3, c4, c5⟩ := HB1.out.at_
 cases ok with
 | false =>
  obtain rfl : res = [] := HR.out
  go_wp2
  go_ret
  exact ⟨rfl, HX1.out⟩
 | true =>
  obtain ⟨hk, hn, ha, hb, htt, hks, hok⟩ := HN.out rfl
  have HNN := hid (show (∀ x ∈ [n, a], 0 ≤ x ∧ x < 9223372036854775808) ∧ (∀ x ∈ [n], 0 ≤ x ∧ x < 9223372036854775808) ∧ ∀ x ∈ [a, n, b, t], 0 ≤ x ∧ x < 9223372036854775808 from ⟨fun x hx => by simp at hx; rcases hx with rfl | rfl <;> assumption, fun x hx => by simp at hx; subst hx; assumption, fun x hx => by simp at hx; rcases hx with rfl | rfl | rfl | rfl <;> assumption⟩)
  have HKS := hid (And.intro hks hok)
  rw [if_pos rfl] at HR
  clear hn ha hb htt hks hok
  by_cases k1 : k = 1
  · rw [if_pos k1] at HR
    subst k1
    have hal := (Ext.refl w1).alloc (.cells #[.int .i64 n, .int .i64 a] 3)
    have HCL := hid (line_any [112, 105, 99, 107] (.slice (some ⟨w1.heap.size, 0, none⟩) 2 2) [n, a] _ (sact_ints [n, a] w1 #[.int .i64 n, .int .i64 a] 2 rfl (by omega) rfl) (by simp) (by simp) HNN.out.1 (HT1.out.ext hal))
    rw [← HR.out] at HCL
    have HX2 := hid (HX1.out.trans hal)
    clear hal hk
    go_wp2_with fail
    refine HCL.out.mono ?_
    rintro e w2 ⟨rfl, he2⟩
    go_wp2
    go_ret
    exact ⟨rfl, HX2.out.trans he2⟩
  rw [if_neg k1] at HR
  by_cases k2 : k = 2
  · rw [if_pos k2] at HR
    subst k2
    have hal := (Ext.refl w1).alloc (.cells #[.int .i64 n] 3)
    have HCL := hid (line_any [115, 116, 111, 112] (.slice (some ⟨w1.heap.size, 0, none⟩) 1 1) [n] _ (sact_ints [n] w1 #[.int .i64 n] 1 rfl (by omega) rfl) (by simp) (by simp) HNN.out.2.1 (HT1.out.ext hal))
    rw [← HR.out] at HCL
    have HX2 := hid (HX1.out.trans hal)
    clear hal hk k1
    go_wp2_with fail
    refine HCL.out.mono ?_
    rintro e w2 ⟨rfl, he2⟩
    go_wp2
    go_ret
    exact ⟨rfl, HX2.out.trans he2⟩
  rw [if_neg k2] at HR
  by_cases k3 : k = 3
  · rw [if_pos k3] at HR
    subst k3
    have HCL := hid (line_any [99, 114, 97, 115, 104] (.slice A ks.length c) ks _ HU1.out (by have := HKS.out.1; omega) (by simp) HKS.out.2 HT1.out)
    rw [← HR.out] at HCL
    clear hk k1 k2
    go_wp2_with fail
    refine HCL.out.mono ?_
    rintro e w2 ⟨rfl, he2⟩
    go_wp2
    go_ret
    exact ⟨rfl, HX1.out.trans he2⟩
  rw [if_neg k3] at HR
  by_cases k4 : k = 4
  · rw [if_pos k4] at HR
    subst k4
    have hal := (Ext.refl w1).alloc (.cells #[.int .i64 a, .int .i64 n, .int .i64 b, .int .i64 t] 3)
    have HCL := hid (line_any [102, 108, 105, 112] (.slice (some ⟨w1.heap.size, 0, none⟩) 4 4) [a, n, b, t] _ (sact_ints [a, n, b, t] w1 #[.int .i64 a, .int .i64 n, .int .i64 b, .int .i64 t] 4 rfl (by omega) rfl) (by simp) (by simp) HNN.out.2.2 (HT1.out.ext hal))
    rw [← HR.out] at HCL
    have HX2 := hid (HX1.out.trans hal)
    clear hal hk k1 k2 k3
    go_wp2_with fail
    refine HCL.out.mono ?_
    rintro e w2 ⟨rfl, he2⟩
    go_wp2
    go_ret
    exact ⟨rfl, HX2.out.trans he2⟩
  rw [if_neg k4] at HR
  have hal := (Ext.refl w1).alloc (.cells #[.int .i64 n, .int .i64 a] 3)
  have HCL := hid (line_any [114, 117, 110] (.slice (some ⟨w1.heap.size, 0, none⟩) 2 2) [n, a] _ (sact_ints [n, a] w1 #[.int .i64 n, .int .i64 a] 2 rfl (by omega) rfl) (by simp) (by simp) HNN.out.1 (HT1.out.ext hal))
  rw [← HR.out] at HCL
  have HX2 := hid (HX1.out.trans hal)
  clear hal hk
  go_wp2_with fail
  refine HCL.out.mono ?_
  rintro e w2 ⟨rfl, he2⟩
  go_wp2
  go_ret
  exact ⟨rfl, HX2.out.trans he2⟩
end Go.Proofs.YtpmpjjhchkoboaaGreatDoor
