/-
  ScrRel, ScLive, ShelfI, packed: what the claim needs of them.
-/
import Derived.Test.YtpmpjjhchkoboaaGreatDoorPb17
import Derived.Test.YtpmpjjhchkoboaaGreatDoorPb18
import Derived.Test.YtpmpjjhchkoboaaGreatDoorPb04
import Derived.Test.YtpmpjjhchkoboaaGreatDoorPb06
import Derived.Test.YtpmpjjhchkoboaaGreatDoorPb05
import Derived.Test.YtpmpjjhchkoboaaGreatDoorPb14
import Derived.Test.YtpmpjjhchkoboaaGreatDoorPb15
import Derived.Shelf.SlGeneric
import Derived.Shelf.Strconv.Itoa3
import Derived.Ground.NamesProg
import Derived.Test.YtpmpjjhchkoboaaGreatDoorProg
set_option linter.unusedVariables false
namespace Go.Ox.Sc
noncomputable def srtE (l : List Bag) : List Bag := l.map Rec.srt
noncomputable def nrm (s : Sc) : Sc := ⟨s.cfg, s.g, s.ins.map srtE, s.acts⟩
end Go.Ox.Sc
namespace Go.Ox.Sc
open Go.RowKit Go.Ox Go.Ox.Gr
def EpR (w : World) (v : Value) (l : List Bag) : Prop := RV (fun w u b => RP w u b) w v l
theorem EpR.ext {w w' : World} {v : Value} {l : List Bag} (h : EpR w v l) (he : Ext w w') : EpR w' v l := RV.ext h (fun _ _ hx => RP.ext hx he) he
theorem EpR.form {w : World} {v : Value} {l : List Bag} (h : EpR w v l) : ∃ A c, v = .slice A l.length c := RV.form h
theorem EpR.nil (w : World) : EpR w (.slice none 0 0) [] := RV.nil _ _
theorem EpR.at_ {w : World} {A : Option Addr} {n c : Nat} {l : List Bag} (h : EpR w (.slice A n c) l) {k : Nat} (hk : k < l.length) :
    ∃ b o u, A = some ⟨b, o, none⟩ ∧ w.cell? ⟨b, o + k, none⟩ = some u ∧ RP w u l[k] := RV.at_ h hk
def InsR (w : World) (v : Value) (l : List (List Bag)) : Prop := RV EpR w v l
theorem InsR.ext {w w' : World} {v : Value} {l : List (List Bag)} (h : InsR w v l) (he : Ext w w') : InsR w' v l := RV.ext h (fun _ _ hx => hx.ext he) he
theorem InsR.form {w : World} {v : Value} {l : List (List Bag)} (h : InsR w v l) : ∃ A c, v = .slice A l.length c := RV.form h
theorem InsR.nil (w : World) : InsR w (.slice none 0 0) [] := RV.nil _ _
theorem InsR.at_ {w : World} {A : Option Addr} {n c : Nat} {l : List (List Bag)} (h : InsR w (.slice A n c) l) {k : Nat} (hk : k < l.length) :
    ∃ b o u, A = some ⟨b, o, none⟩ ∧ w.cell? ⟨b, o + k, none⟩ = some u ∧ EpR w u l[k] := RV.at_ h hk
abbrev actV (a : Act) (u : Value) : List Value := [.int .i64 a.1.1, .int .i64 a.1.2.1, .int .i64 a.1.2.2.1, .int .i64 a.1.2.2.2.1, .int .i64 a.1.2.2.2.2, u]
def ActQ (w : World) (r : List Value) (a : Act) : Prop := ∃ u, r = actV a u ∧ RE w u a.2
theorem ActQ.ext {w w' : World} {r : List Value} {a : Act} (h : ActQ w r a) (he : Ext w w') : ActQ w' r a := by
  obtain ⟨u, h1, h2⟩ := h
  exact ⟨u, h1, RE.ext h2 he⟩
def ActsR (w : World) (v : Value) (l : List Act) : Prop := RS 6 ActQ w v l
theorem ActsR.ext {w w' : World} {v : Value} {l : List Act} (h : ActsR w v l) (he : Ext w w') : ActsR w' v l := RS.ext h (fun _ _ _ hx => hx.ext he) he
theorem ActsR.form {w : World} {v : Value} {l : List Act} (h : ActsR w v l) : ∃ A c, v = .slice A l.length c := RS.form h
theorem ActsR.nil (w : World) : ActsR w (.slice none 0 0) [] := RS.nil _ _ _
theorem ActsR.at_ {w : World} {A : Option Addr} {n c : Nat} {l : List Act} (h : ActsR w (.slice A n c) l) {i : Nat} (hi : i < l.length) :
    ∃ b o u, A = some ⟨b, o, none⟩ ∧ w.cell? ⟨b, o + i * 6, none⟩ = some (.int .i64 l[i].1.1) ∧ w.cell? ⟨b, o + i * 6 + 1, none⟩ = some (.int .i64 l[i].1.2.1) ∧ w.cell? ⟨b, o + i * 6 + 2, none⟩ = some (.int .i64 l[i].1.2.2.1) ∧
      w.cell? ⟨b, o + i * 6 + 3, none⟩ = some (.int .i64 l[i].1.2.2.2.1) ∧ w.cell? ⟨b, o + i * 6 + 4, none⟩ = some (.int .i64 l[i].1.2.2.2.2) ∧ w.cell? ⟨b, o + i * 6 + 5, none⟩ = some u ∧ RE w u l[i].2 := by
  obtain ⟨b, o, r, hA, hr, ⟨u, h1, h2⟩, hc⟩ := RS.at_ h (by omega) hi
  subst h1
  exact ⟨b, o, u, hA, hc 0 _ rfl, hc 1 _ rfl, hc 2 _ rfl, hc 3 _ rfl, hc 4 _ rfl, hc 5 _ rfl, h2⟩
structure ScR (d : Nat) (w : World) (nv iv av : Value) (s : Sc) : Prop where
  n : NodesR d w nv s.g.1
  i : InsR w iv s.ins
  a : ActsR w av s.acts
theorem ScR.ext {d : Nat} {w w' : World} {nv iv av : Value} {s : Sc} (h : ScR d w nv iv av s) (he : Ext w w') : ScR d w' nv iv av s := ⟨h.n.ext he, h.i.ext he, h.a.ext he⟩
theorem ScR.form {d : Nat} {w : World} {nv iv av : Value} {s : Sc} (h : ScR d w nv iv av s) : (∃ A c, nv = .slice A s.g.1.length c) ∧ (∃ A c, iv = .slice A s.ins.length c) ∧ ∃ A c, av = .slice A s.acts.length c := ⟨h.n.form, h.i.form, h.a.form⟩
abbrev scL8 (s : Sc) (nv iv av : Value) : Array Value := #[.int .i64 s.cfg.1, .int .i64 s.cfg.2.1, .int .i64 s.cfg.2.2.1, .int .i64 s.cfg.2.2.2, nv, .int .i64 s.g.2, iv, av]
abbrev scAg (s : Sc) (nv iv av : Value) : Value := .agg (scL8 s nv iv av)
structure ScSm (s : Sc) : Prop where
  ins : s.ins.length ≤ 1000000
  eps : ∀ l ∈ s.ins, l.length ≤ 1000000 ∧ ∀ b ∈ l, b.length ≤ 1000000
  acts : s.acts.length ≤ 1000000
  keeps : ∀ a ∈ s.acts, a.2.length ≤ 1000000
end Go.Ox.Sc
namespace Go.Ox.Sc
open Go.Ox.Num (St numP bytesP)
open Go.Ox.Gr (PS bd numsL okI numC bd_mk)
theorem dec_more {s : Sc} (h : Canon s) (hg : (Gr.grL s.g).length < 9223372036854775808) (r : List UInt8) (hr : r ≠ []) : (decP (scL s ++ r)).2 = false := by
  obtain ⟨h0, hs⟩ := h
  obtain ⟨h1, h2, h3, h4, h5, h6⟩ := scOk_parts h0
  obtain ⟨cfg, g, ins, acts⟩ := s
  dsimp only at *
  have hc := seq_put (cfgN cfg) (partL (Gr.grL g) ++ (Num.put ins.length ++ ins.flatMap epL ++ (Num.put acts.length ++ acts.flatMap actL ++ r))) fun x hx => inR_ok (h1 x hx) (by omega)
  have hp := part_put hg (Num.put ins.length ++ ins.flatMap epL ++ (Num.put acts.length ++ acts.flatMap actL ++ r))
  have hG : Gr.getP (Gr.grL g) = (g, true) := Gr.get_put (Gr.gOk_fit (l := g.1) (out := g.2) h2).1 (Gr.gOk_fit (l := g.1) (out := g.2) h2).2 h2
  have hI := row_put (f := epP) (g := epL) (most := 16) (l := ins) (by omega) (by omega) (fun l hl => ep_put (h4 l hl) (hs l hl)) (Num.put acts.length ++ acts.flatMap actL ++ r)
  have hA := row_put (f := actP) (g := actL) (most := 256) (l := acts) (by omega) (by omega) (fun a ha => act_put (h6 a ha)) r
  have e4 : (cfgN cfg).length = 4 := rfl
  rw [e4] at hc
  have hcfg : cfg4 (cfgN cfg) = cfg := rfl
  have hsc : scL ⟨cfg, g, ins, acts⟩ ++ r = numsL (cfgN cfg) ++ (partL (Gr.grL g) ++ (Num.put ins.length ++ ins.flatMap epL ++ (Num.put acts.length ++ acts.flatMap actL ++ r))) := by
    unfold scL
    simp only [List.append_assoc]
  rw [hsc]
  unfold decP
  dsimp only
  have hg0 : (⟨⟨numsL (cfgN cfg) ++ (partL (Gr.grL g) ++ (Num.put ins.length ++ ins.flatMap epL ++ (Num.put acts.length ++ acts.flatMap actL ++ r))), false⟩, false⟩ : PS) = good (numsL (cfgN cfg) ++ (partL (Gr.grL g) ++ (Num.put ins.length ++ ins.flatMap epL ++ (Num.put acts.length ++ acts.flatMap actL ++ r)))) := rfl
  rw [hg0, hc]
  dsimp only
  rw [hp]
  dsimp only
  rw [hG]
  dsimp only
  rw [if_pos rfl, if_pos rfl]
  have hg1 : (⟨(good (Num.put ins.length ++ ins.flatMap epL ++ (Num.put acts.length ++ acts.flatMap actL ++ r))).s, !true⟩ : PS) = good (Num.put ins.length ++ ins.flatMap epL ++ (Num.put acts.length ++ acts.flatMap actL ++ r)) := rfl
  rw [hg1, hI]
  dsimp only
  rw [hA]
  dsimp only
  cases r with
  | nil => exact absurd rfl hr
  | cons x y => unfold good; simp
def liveS : Sc := ⟨(2, 3, 4, 500), (Gr.reachN 3, 2), [[[(1, 2)], []]], [((3, 0, 0, 0, 0), [64, 0]), ((2, 5, 0, 0, 0), [])]⟩
theorem live_ok : scOk liveS = true := by decide +kernel
theorem live_srt1 : Rec.srt [(1, 2)] = [(1, 2)] := (Rec.srt_is (by unfold Rec.Asc Mom.lt; decide) (List.Perm.refl _)).symm
theorem live_srt0 : Rec.srt [] = [] := (Rec.srt_is (by unfold Rec.Asc Mom.lt; decide) (List.Perm.refl _)).symm
theorem live_canon : Canon liveS := ⟨live_ok, fun l hl b hb => by
  have hl : l = [[(1, 2)], []] := by simpa [liveS] using hl
  subst hl
  simp at hb
  rcases hb with rfl | rfl
  · exact live_srt1
  · exact live_srt0⟩
theorem live_sm : ScSm liveS := ⟨by decide, fun l hl => by
  have hl : l = [[(1, 2)], []] := by simpa [liveS] using hl
  subst hl
  exact ⟨by decide, fun b hb => by simp at hb; rcases hb with rfl | rfl <;> decide⟩, by decide, fun a ha => by
  have ha : a = ((3, 0, 0, 0, 0), [64, 0]) ∨ a = ((2, 5, 0, 0, 0), []) := by simpa [liveS] using ha
  rcases ha with rfl | rfl <;> decide⟩
theorem live_gsm : Gr.Sm 4 liveS.g.1 := Gr.Sm.of_deep (by decide +kernel)
theorem live_len : (scL liveS).length ≤ 999999 := by
  have := scL_len (s := liveS) (c := 1) live_ok (fun l hl b hb => by
    have hl : l = [[(1, 2)], []] := by simpa [liveS] using hl
    subst hl
    simp at hb
    rcases hb with rfl | rfl <;> decide)
  omega
theorem zero_bad : scOk ⟨(0, 0, 0, 0), ([], 0), [], []⟩ = false := by decide +kernel
end Go.Ox.Sc
namespace Go.Proofs.YtpmpjjhchkoboaaGreatDoor
open Go.Shelf Go.Proofs
def Tryz.itoaL_ren : Go.Shelf.Ren := ⟨fun | 171 => 114 | 243 => 136 | 246 => 151 | 283 => 165 | 284 => 166 | 285 => 167 | 286 => 168 | 129 => 161 | 317 => 176 | 318 => 177 | 319 => 178 | 320 => 179 | 337 => 182 | 338 => 183 | n => n, fun | 3 => 3 | 9 => 9 | 2 => 2 | 4 => 4 | 171 => 190 | 0 => 0 | 53 => 159 | 37 => 33 | 5 => 5 | 173 => 192 | 212 => 202 | 51 => 187 | 20 => 20 | 213 => 203 | 46 => 138 | 232 => 208 | 233 => 209 | n => n, fun | 17 => 0 | 18 => 1 | 19 => 2 | n => n⟩
theorem Tryz.itoaL : Go.Proofs.LaysM.n171 Tryz.prog Tryz.itoaL_ren := {
  mixed := by kernel_rfl
  f129 := Tryz.func161.trans (congrArg some (by kernel_rfl))
  f171 := Tryz.func114.trans (congrArg some (by kernel_rfl))
  f243 := Tryz.func136.trans (congrArg some (by kernel_rfl))
  f246 := Tryz.func151.trans (congrArg some (by kernel_rfl))
  f283 := Tryz.func165.trans (congrArg some (by kernel_rfl))
  f284 := Tryz.func166.trans (congrArg some (by kernel_rfl))
  f285 := Tryz.func167.trans (congrArg some (by kernel_rfl))
  f286 := Tryz.func168.trans (congrArg some (by kernel_rfl))
  f317 := Tryz.func176.trans (congrArg some (by kernel_rfl))
  f318 := Tryz.func177.trans (congrArg some (by kernel_rfl))
  f319 := Tryz.func178.trans (congrArg some (by kernel_rfl))
  f320 := Tryz.func179.trans (congrArg some (by kernel_rfl))
  f337 := Tryz.func182.trans (congrArg some (by kernel_rfl))
  f338 := Tryz.func183.trans (congrArg some (by kernel_rfl))
  t0 := Tryz.underlying0
  a0 := Tryz.isAgg0
  z0 := Tryz.sizeOf0
  v0 := Tryz.zeroValue0
  t2 := Tryz.underlying2
  a2 := Tryz.isAgg2
  z2 := Tryz.sizeOf2
  v2 := Tryz.zeroValue2
  t3 := Tryz.underlying3
  a3 := Tryz.isAgg3
  z3 := Tryz.sizeOf3
  v3 := Tryz.zeroValue3
  t4 := Tryz.underlying4
  a4 := Tryz.isAgg4
  z4 := Tryz.sizeOf4
  v4 := Tryz.zeroValue4
  t5 := Tryz.underlying5
  a5 := Tryz.isAgg5
  z5 := Tryz.sizeOf5
  v5 := Tryz.zeroValue5
  t9 := Tryz.underlying9
  a9 := Tryz.isAgg9
  z9 := Tryz.sizeOf9
  v9 := Tryz.zeroValue9
  t20 := Tryz.underlying20
  a20 := Tryz.isAgg20
  z20 := Tryz.sizeOf20
  v20 := Tryz.zeroValue20
  t37 := Tryz.underlying33
  a37 := Tryz.isAgg33
  z37 := Tryz.sizeOf33
  v37 := Tryz.zeroValue33
  t46 := Tryz.underlying138
  a46 := Tryz.isAgg138
  z46 := Tryz.sizeOf138
  v46 := Tryz.zeroValue138
  t51 := Tryz.underlying187
  a51 := Tryz.isAgg187
  z51 := Tryz.sizeOf187
  v51 := Tryz.zeroValue187
  t53 := Tryz.underlying159
  a53 := Tryz.isAgg159
  z53 := Tryz.sizeOf159
  v53 := Tryz.zeroValue159
  t171 := Tryz.underlying190
  a171 := Tryz.isAgg190
  z171 := Tryz.sizeOf190
  v171 := Tryz.zeroValue190
  t173 := Tryz.underlying192
  a173 := Tryz.isAgg192
  z173 := Tryz.sizeOf192
  v173 := Tryz.zeroValue192
  t212 := Tryz.underlying202
  a212 := Tryz.isAgg202
  z212 := Tryz.sizeOf202
  v212 := Tryz.zeroValue202
  t213 := Tryz.underlying203
  a213 := Tryz.isAgg203
  z213 := Tryz.sizeOf203
  t232 := Tryz.underlying208
  a232 := Tryz.isAgg208
  z232 := Tryz.sizeOf208
  v232 := Tryz.zeroValue208
  t233 := Tryz.underlying209
  a233 := Tryz.isAgg209
  z233 := Tryz.sizeOf209
  v233 := Tryz.zeroValue209
  g17 := by kernel_rfl
  g18 := by kernel_rfl
  g19 := by kernel_rfl
  i0 := by kernel_rfl
  i2 := by kernel_rfl
  i3 := by kernel_rfl
  i4 := by kernel_rfl
  i5 := by kernel_rfl
  i9 := by kernel_rfl
  i20 := by kernel_rfl
  i37 := by kernel_rfl
  i46 := by kernel_rfl
  i51 := by kernel_rfl
  i53 := by kernel_rfl
  i171 := by kernel_rfl
  i173 := by kernel_rfl
  i212 := by kernel_rfl
  i232 := by kernel_rfl
  i233 := by kernel_rfl
  m17 := by kernel_rfl
  m18 := by kernel_rfl
  m19 := by kernel_rfl }
end Go.Proofs.YtpmpjjhchkoboaaGreatDoor
