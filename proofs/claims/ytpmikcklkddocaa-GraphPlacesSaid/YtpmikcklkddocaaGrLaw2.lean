/-
  Layer 17: GraphPlaces.
-/
import Derived.BigRegion
import Derived.Test.YtpmikcklkddocaaGrLives
import Derived.Test.YtpmikcklkddocaaGrArgs
import Derived.Test.YtpmikcklkddocaaGrOrd
namespace Go.Ox.Gr
theorem gNd_body {g : G} {p : Pl} (h : gOk g = true) : Sm 1 ((gNd g p).getD default).body ∧ ((gNd g p).getD default).ins.length ≤ 40 := by
  obtain ⟨l, out⟩ := g
  unfold gNd
  rw [if_pos h]
  have hs := gOk_sm h
  cases hn : nodeAt l p with
  | none => exact ⟨Sm.nil 1, by decide⟩
  | some n =>
    obtain ⟨i, hi, -, h2⟩ := nodeAt_cases hn
    rcases h2 with ⟨-, rfl⟩ | ⟨j, hj, -, rfl⟩
    · exact ⟨(hs.2 _ (List.getElem_mem hi)).2, (hs.2 _ (List.getElem_mem hi)).1⟩
    · have h3 := (hs.2 _ (List.getElem_mem hi)).2
      exact ⟨(h3.2 _ (List.getElem_mem hj)).2 ▸ Sm.nil 1, (h3.2 _ (List.getElem_mem hj)).1⟩
end Go.Ox.Gr
namespace Go.Proofs.Ytpmikcklkddocaa
open Go.RowKit Go.Ox Go.Ox.Gr
set_option linter.unusedVariables false
set_option linter.unusedSimpArgs false
/-- one node as a list -/
theorem one_nodes (d : Nat) (w : World) (A : Option Addr) (c : Nat) (A' : Option Addr) (c' : Nat) (x : Nd) (hu : RE w (.slice A x.ins.length c) x.ins) (hb : NodesR d w (.slice A' x.body.length c') x.body) :
    NodesR (d + 1) (w.alloc (.cells #[.int .i64 x.op, .slice A x.ins.length c, .int .i64 x.kind, .int .i64 x.fa, .int .i64 x.a, .slice A' x.body.length c'] 40)) (.slice (some ⟨w.heap.size, 0, none⟩) 1 1) [x] := by
  refine NodesR.lit _ 40 [ndC x.op x.kind x.fa x.a (.slice A x.ins.length c) (.slice A' x.body.length c')] [x] rfl rfl (by unfold maxLen; omega) rfl rfl ⟨⟨rfl, ?_⟩, trivial⟩
  have he := (Ext.refl w).alloc (.cells #[.int .i64 x.op, .slice A x.ins.length c, .int .i64 x.kind, .int .i64 x.fa, .int .i64 x.a, .slice A' x.body.length c'] 40)
  exact ⟨_, _, rfl, RE.ext hu he, NodesR.ext hb he⟩
theorem one_at {d : Nat} {w0 w : World} {m : Nat} {A : Option Addr} {c : Nat} {A' : Option Addr} {c' : Nat} {x : Nd} (hm : m = w.heap.size) (he : Ext w0 w) (hu : RE w0 (.slice A x.ins.length c) x.ins) (hb : NodesR d w0 (.slice A' x.body.length c') x.body) :
    NodesR (d + 1) (w.alloc (.cells #[.int .i64 x.op, .slice A x.ins.length c, .int .i64 x.kind, .int .i64 x.fa, .int .i64 x.a, .slice A' x.body.length c'] 40)) (.slice (some ⟨m, 0, none⟩) 1 1) [x] := by
  subst hm
  exact one_nodes d w A c A' c' x (RE.ext hu he) (NodesR.ext hb he)
theorem Blk.at_new {w : World} {m : Nat} {T : TypeId} {cells : Array Value} (hm : m = w.heap.size) : Blk (w.alloc (.cells cells T)) m T cells := by
  subst hm
  exact Blk.new _ _ _
section
variable {w : World} {a b c e : Obj} {C : Array Value} {T : TypeId} {d : Nat} {A A' : Option Addr} {k k' : Nat} {x : Nd}
theorem p4x : Ext w ((((w.alloc a).alloc b).alloc c).alloc e).drew := ((((Ext.refl w).alloc a).alloc b).alloc c).alloc e |>.drew
theorem p4b0 : Blk ((((w.alloc (.cells C T)).alloc b).alloc c).alloc e).drew (w.heap.size) T C := by
  have hs : w.heap.size = w.heap.size := by simp
  have h := Blk.new w T C
  rw [hs] at h
  exact h.ext (show Ext _ _ from ((((Ext.refl _).alloc b).alloc c).alloc e)).drew
theorem p4n0 (hu : RE w (.slice A x.ins.length k) x.ins) (hb : NodesR d w (.slice A' x.body.length k') x.body) : NodesR (d + 1) ((((w.alloc (.cells #[.int .i64 x.op, .slice A x.ins.length k, .int .i64 x.kind, .int .i64 x.fa, .int .i64 x.a, .slice A' x.body.length k'] 40)).alloc b).alloc c).alloc e).drew (.slice (some ⟨w.heap.size, 0, none⟩) 1 1) [x] :=
  NodesR.ext (one_at (w := w) (by simp) (Ext.refl w) hu hb) (show Ext _ _ from ((((Ext.refl _).alloc b).alloc c).alloc e)).drew
theorem p4b1 : Blk ((((w.alloc a).alloc (.cells C T)).alloc c).alloc e).drew (w.heap.size + 1) T C := by
  have hs : (w.alloc a).heap.size = w.heap.size + 1 := by simp
  have h := Blk.new (w.alloc a) T C
  rw [hs] at h
  exact h.ext (show Ext _ _ from (((Ext.refl _).alloc c).alloc e)).drew
theorem p4n1 (hu : RE w (.slice A x.ins.length k) x.ins) (hb : NodesR d w (.slice A' x.body.length k') x.body) : NodesR (d + 1) ((((w.alloc a).alloc (.cells #[.int .i64 x.op, .slice A x.ins.length k, .int .i64 x.kind, .int .i64 x.fa, .int .i64 x.a, .slice A' x.body.length k'] 40)).alloc c).alloc e).drew (.slice (some ⟨w.heap.size + 1, 0, none⟩) 1 1) [x] :=
  NodesR.ext (one_at (w := (w.alloc a)) (by simp) ((Ext.refl w).alloc a) hu hb) (show Ext _ _ from (((Ext.refl _).alloc c).alloc e)).drew
theorem p4b2 : Blk ((((w.alloc a).alloc b).alloc (.cells C T)).alloc e).drew (w.heap.size + 1 + 1) T C := by
  have hs : ((w.alloc a).alloc b).heap.size = w.heap.size + 1 + 1 := by simp
  have h := Blk.new ((w.alloc a).alloc b) T C
  rw [hs] at h
  exact h.ext (show Ext _ _ from ((Ext.refl _).alloc e)).drew
theorem p4n2 (hu : RE w (.slice A x.ins.length k) x.ins) (hb : NodesR d w (.slice A' x.body.length k') x.body) : NodesR (d + 1) ((((w.alloc a).alloc b).alloc (.cells #[.int .i64 x.op, .slice A x.ins.length k, .int .i64 x.kind, .int .i64 x.fa, .int .i64 x.a, .slice A' x.body.length k'] 40)).alloc e).drew (.slice (some ⟨w.heap.size + 1 + 1, 0, none⟩) 1 1) [x] :=
  NodesR.ext (one_at (w := ((w.alloc a).alloc b)) (by simp) (((Ext.refl w).alloc a).alloc b) hu hb) (show Ext _ _ from ((Ext.refl _).alloc e)).drew
theorem p4b3 : Blk ((((w.alloc a).alloc b).alloc c).alloc (.cells C T)).drew (w.heap.size + 1 + 1 + 1) T C := by
  have hs : (((w.alloc a).alloc b).alloc c).heap.size = w.heap.size + 1 + 1 + 1 := by simp
  have h := Blk.new (((w.alloc a).alloc b).alloc c) T C
  rw [hs] at h
  exact h.ext (show Ext _ _ from (Ext.refl _)).drew
theorem p4n3 (hu : RE w (.slice A x.ins.length k) x.ins) (hb : NodesR d w (.slice A' x.body.length k') x.body) : NodesR (d + 1) ((((w.alloc a).alloc b).alloc c).alloc (.cells #[.int .i64 x.op, .slice A x.ins.length k, .int .i64 x.kind, .int .i64 x.fa, .int .i64 x.a, .slice A' x.body.length k'] 40)).drew (.slice (some ⟨w.heap.size + 1 + 1 + 1, 0, none⟩) 1 1) [x] :=
  NodesR.ext (one_at (w := (((w.alloc a).alloc b).alloc c)) (by simp) ((((Ext.refl w).alloc a).alloc b).alloc c) hu hb) (show Ext _ _ from (Ext.refl _)).drew
end
theorem keyed_is (op : Int) : keyedB op = (op == 5 || (op == 6 || op == 7)) := rfl
attribute [local irreducible] RE OE NodesR RB OB
set_option maxRecDepth 100000 in
set_option maxHeartbeats 4000000 in
theorem graphPlaces_large (d : Nat) (v : Value) (g : G) (q : Pl) (n : Int) (w : World) (hv : NodesR d w v g.1) (hl : largeB g.1 = true) :
    Calls Try.prog 4 #[gAg v g.2, plV q, .int .i64 n] w fun e w' => e = .returned (.bool true) ∧ Ext w w' := by
  obtain ⟨l, out⟩ := g
  dsimp only at hv hl ⊢
  obtain ⟨A, c, rfl⟩ := hv.form
  have HL := Lib.hid lives_any
  have hal := ((Ext.refl w).alloc (gCs (.slice A l.length c) out)).alloc (plCs q.1 q.2)
  have HX := Lib.hid hal
  have HB := Lib.hid ((Blk.new w 24 #[.slice A l.length c, .int .i64 out]).ext ((Ext.refl _).alloc (plCs q.1 q.2)))
  have HV := Lib.hid (hv.ext hal)
  have HLG := Lib.hid (fun w h => large_any d (.slice A l.length c) l out w h)
  rw [hl] at HLG
  clear hv hal hl
  go_enter Try.func4, Try.ntmps4
  go_upto_region 1 with fail
  generalize w.heap.size = p at *
  generalize (w.alloc (gCs (.slice A l.length c) out)).alloc (plCs q.1 q.2) = w0 at *
  have y0 : w0.cell? ⟨p, 0, none⟩ = some (.slice A l.length c) := HB.out.cell 0
  have y1 : w0.cell? ⟨p, 1, none⟩ = some (.int .i64 out) := HB.out.cell 1
  have HC := Lib.hid (HLG.out _ HV.out)
  go_wp2_with fail
  refine HC.out.mono ?_
  rintro e w1 ⟨rfl, he⟩
  replace HX := Lib.hid (HX.out.trans he)
  clear he y0 y1 HC
  go_wp2_with fail
  refine (HL.out _).mono ?_
  rintro e w2 ⟨rfl, he⟩
  replace HX := Lib.hid (HX.out.trans he)
  clear he
  go_wp2
  go_ret
  exact ⟨rfl, HX.out⟩
/-- the boxes of graph and place -/
structure PB (w0 w : World) (p d : Nat) (A : Option Addr) (c : Nat) (l : List Nd) (out : Int) (q : Pl) : Prop where
  g : Blk w p 24 #[.slice A l.length c, .int .i64 out]
  q : Blk w (p + 1) 35 #[.int .i64 q.1, .int .i64 q.2]
  v : NodesR d w (.slice A l.length c) l
  x : Ext w0 w
theorem PB.ext {w0 w w' : World} {p d : Nat} {A : Option Addr} {c : Nat} {l : List Nd} {out : Int} {q : Pl} (h : PB w0 w p d A c l out q) (he : Ext w w') : PB w0 w' p d A c l out q := ⟨h.g.ext he, h.q.ext he, h.v.ext he, h.x.trans he⟩
theorem PB.at_ {w0 w : World} {p d : Nat} {A : Option Addr} {c : Nat} {l : List Nd} {out : Int} {q : Pl} (h : PB w0 w p d A c l out q) :
    w.cell? ⟨p, 0, none⟩ = some (.slice A l.length c) ∧ w.cell? ⟨p, 1, none⟩ = some (.int .i64 out) ∧ w.cell? ⟨p + 1, 0, none⟩ = some (.int .i64 q.1) ∧ w.cell? ⟨p + 1, 1, none⟩ = some (.int .i64 q.2) := ⟨h.g.cell 0, h.g.cell 1, h.q.cell 0, h.q.cell 1⟩
set_option maxRecDepth 100000 in
set_option maxHeartbeats 8000000 in
theorem graphPlaces_small (d : Nat) (v : Value) (g : G) (q : Pl) (n : Int) (w : World) (hv : NodesR d w v g.1) (hl : largeB g.1 = false) :
    Calls Try.prog 4 #[gAg v g.2, plV q, .int .i64 n] w fun e w' => e = .returned (.bool true) ∧ Ext w w' := by
  obtain ⟨l, out⟩ := g
  dsimp only at hv hl ⊢
  obtain ⟨A, c, rfl⟩ := hv.form
  have HL := Lib.hid lives_any
  have hal := ((Ext.refl w).alloc (gCs (.slice A l.length c) out)).alloc (plCs q.1 q.2)
  have hsz : (w.alloc (gCs (.slice A l.length c) out)).heap.size = w.heap.size + 1 := by simp
  have HP := Lib.hid (show PB w ((w.alloc (gCs (.slice A l.length c) out)).alloc (plCs q.1 q.2)) w.heap.size d A c l out q from
    ⟨(Blk.new w 24 #[.slice A l.length c, .int .i64 out]).ext ((Ext.refl _).alloc (plCs q.1 q.2)), hsz ▸ Blk.new (w.alloc (gCs (.slice A l.length c) out)) 35 #[.int .i64 q.1, .int .i64 q.2], hv.ext hal, hal⟩)
  have HLG := Lib.hid (fun w h => large_any d (.slice A l.length c) l out w h)
  rw [hl] at HLG
  have HND := Lib.hid (fun w h => gNode_any d (.slice A l.length c) (l, out) q w h)
  have HPL := Lib.hid (fun w h => gPlaces_any d (.slice A l.length c) (l, out) w h)
  have HUS := Lib.hid (fun w h => gUsers_any d (.slice A l.length c) (l, out) q w h)
  have HAR := Lib.hid (fun w => gArity_any n w)
  have HRA := Lib.hid (fun w => rArity_any n w)
  have HKE := Lib.hid (fun w => keyed_any n w)
  have HKI := Lib.hid (keyed_is n)
  have HRC := Lib.hid (fun w h => rCheck_any d (.slice A l.length c) l out w h)
  have HRN := Lib.hid (fun (hk : gOk (l, out) = true) w h => rNode_any d (.slice A l.length c) (l, out) q w h hk)
  have HRP := Lib.hid (fun (hk : gOk (l, out) = true) w h => rPlaces_any d (.slice A l.length c) l out w h (body_le hk).1 (body_le hk).2)
  have HRU := Lib.hid (fun (hk : gOk (l, out) = true) (hn : (gNd (l, out) q).isSome = true) w h => rUsers_any d (.slice A l.length c) (l, out) q w h (gOk_Lk hk) hn)
  have HNS := Lib.hid (fun (hk : gOk (l, out) = true) => gNd_body (p := q) hk)
  have HGP := Lib.hid (show gPl (l, out) = if gOk (l, out) = true then places l else [] from rfl)
  have HGN := Lib.hid (show gNd (l, out) q = if gOk (l, out) = true then nodeAt l q else none from rfl)
  have HGU := Lib.hid (fun (h : (gNd (l, out) q).isSome = false) => show gUs (l, out) q = [] from by unfold gUs; rw [if_neg (by rw [h]; simp)])
  have HPLN := Lib.hid (fun (hk : gOk (l, out) = true) => show (places l).length ≤ 1000000 from by have := places_len l l.length (body_le hk).2 (body_le hk).1; rw [List.take_length] at this; omega)
  dsimp only at HND HPL HUS HRN HRU
  clear hv hal hl hsz
  go_enter Try.func4, Try.ntmps4
  go_upto_region 1 with fail
  generalize w.heap.size = p at *
  generalize (w.alloc (gCs (.slice A l.length c) out)).alloc (plCs q.1 q.2) = w0 at *
  obtain ⟨y0, y1, y2, y3⟩ := HP.out.at_
  have HC := Lib.hid (HLG.out _ HP.out.v)
  go_wp2_with fail
  refine HC.out.mono ?_
  rintro e w1 ⟨rfl, he⟩
  replace HP := Lib.hid (HP.out.ext he)
  clear he y0 y1 y2 y3 HC HLG
  obtain ⟨y0, y1, y2, y3⟩ := HP.out.at_
  have HC := Lib.hid (HND.out _ HP.out.v)
  have HUL := Lib.hid (gUs_len (l, out) q)
  have HNOK := Lib.hid (fun (h : gOk (l, out) = false) => show (gNd (l, out) q).isSome = false ∧ gPl (l, out) = [] from ⟨by rw [HGN.out, h]; rfl, by rw [HGP.out, h]; rfl⟩)
  replace HGP := Lib.hid (fun (h : gOk (l, out) = true) => show gPl (l, out) = places l from by rw [HGP.out, if_pos h])
  clear HGN
  generalize gUs (l, out) q = us at *
  generalize gPl (l, out) = pl at *
  generalize gNd (l, out) q = go at *
  generalize go.getD default = N at *
  generalize go.isSome = has at *
  go_wp2_with fail
  refine HC.out.mono ?_
  rintro e w2 ⟨u2, b2, rfl, hu2, hb2, he⟩
  obtain ⟨A2, c2, rfl⟩ := hu2.form
  obtain ⟨B2, d2, rfl⟩ := hb2.form
  have hal := (Ext.refl w2).alloc (ndCs N.op N.kind N.fa N.a (.slice A2 N.ins.length c2) (.slice B2 N.body.length d2))
  have HN2 := Lib.hid (Bx6.new w2 40 (.int .i64 N.op) (.slice A2 N.ins.length c2) (.int .i64 N.kind) (.int .i64 N.fa) (.int .i64 N.a) (.slice B2 N.body.length d2))
  have HU2 := Lib.hid (hu2.ext hal)
  have HB2 := Lib.hid (hb2.ext hal)
  replace HP := Lib.hid ((HP.out.ext he).ext hal)
  clear he hal hu2 hb2 y0 y1 y2 y3 HC HND
  go_upto_region 4 with fail
  generalize w2.heap.size = r at *
  generalize w2.alloc (ndCs N.op N.kind N.fa N.a (.slice A2 N.ins.length c2) (.slice B2 N.body.length d2)) = w3 at *
  obtain ⟨y0, y1, y2, y3⟩ := HP.out.at_
  refine wp_regionY [] [] Ext Ext (fun _ => True) (by kernel_rfl) (by rfl) (by rfl) (by kernel_rfl) (by kernel_rfl) (by kernel_rfl) (fun _ _ _ x y => x.trans y) Ext.refl (fun _ _ x => x) (Ext.refl _).drew (fun _ _ x _ => x) trivial ?_
  refine wpY_val rfl rfl (by first | exact runs0 | exact runs1 rfl) Ext.refl rfl ?_; apply Exists.intro; refine ⟨?_, ?_⟩
  · intro a w' hR h1
    have e1 : _ = _ := h1
    have hl0 := hR.cell y0
    have hl1 := hR.cell y1
    go_simp
    rfl
  refine wpY_call (fun v w => RE w v pl) rfl rfl (by first | exact runs0 | exact runs1 rfl) rfl (by first | exact mono_eq | exact (fun _ _ _ h k => Rd.ext h k) | exact (fun _ _ _ h k => RB.ext h k) | exact (fun _ _ _ h k => OB.ext h k) | exact (fun _ _ _ h k => RB.extS h k) | exact (fun _ _ _ h k => Rd.ext h (GrownW.ext k)) | exact (fun _ _ _ h k => RP.ext h k) | exact (fun _ _ _ h k => OP.ext h k) | exact (fun _ _ _ h k => Rd.extV h k) | exact (fun _ _ _ h k => RB.extV h k) | exact (fun _ _ _ h k => E0.ext h k) | exact (fun _ _ _ h k => O0.ext h k) | exact (fun _ _ _ h k => RE.ext h k) | exact (fun _ _ _ h k => RE.extD h k) | exact (fun _ _ _ h _ => h) | exact (fun _ _ _ ⟨n, h1, h2⟩ k => ⟨n, h1, k.st _ _ h2⟩)) ?_ ?_
  · intro a w' hR h1 K hK
    have e1 : _ = _ := h1
    go_simp
    refine (HPL.out w' (HP.out.v.ext hR)).mono ?_
    rintro e w2 ⟨v9, rfl, ho, he⟩
    exact hK _ _ he ho
  refine wpY_val rfl rfl (by first | exact runs0 | exact runs1 rfl) Ext.refl rfl ?_; apply Exists.intro; refine ⟨?_, ?_⟩
  · intro a w' hR h1
    have e1 : _ = _ := h1
    have hl0 := hR.cell y0
    have hl1 := hR.cell y1
    go_simp
    rfl
  refine wpY_val rfl rfl (by first | exact runs0 | exact runs1 rfl) Ext.refl rfl ?_; apply Exists.intro; refine ⟨?_, ?_⟩
  · intro a w' hR h1
    have e1 : _ = _ := h1
    have hl2 := hR.cell y2
    have hl3 := hR.cell y3
    go_simp
    rfl
  refine wpY_call (fun v w => RE w v us) rfl rfl (by first | exact runs0 | exact runs1 rfl) rfl (by first | exact mono_eq | exact (fun _ _ _ h k => Rd.ext h k) | exact (fun _ _ _ h k => RB.ext h k) | exact (fun _ _ _ h k => OB.ext h k) | exact (fun _ _ _ h k => RB.extS h k) | exact (fun _ _ _ h k => Rd.ext h (GrownW.ext k)) | exact (fun _ _ _ h k => RP.ext h k) | exact (fun _ _ _ h k => OP.ext h k) | exact (fun _ _ _ h k => Rd.extV h k) | exact (fun _ _ _ h k => RB.extV h k) | exact (fun _ _ _ h k => E0.ext h k) | exact (fun _ _ _ h k => O0.ext h k) | exact (fun _ _ _ h k => RE.ext h k) | exact (fun _ _ _ h k => RE.extD h k) | exact (fun _ _ _ h _ => h) | exact (fun _ _ _ ⟨n, h1, h2⟩ k => ⟨n, h1, k.st _ _ h2⟩)) ?_ ?_
  · intro a w' hR h1 h2 K hK
    have e1 : _ = _ := h1
    have e2 : _ = _ := h2
    go_simp
    refine (HUS.out w' (HP.out.v.ext hR)).mono ?_
    rintro e w2 ⟨v9, rfl, ho, he⟩
    exact hK _ _ he ho
  (refine wpY_assign rfl rfl rfl rfl rfl (by first | exact runs0 | exact runs1 rfl) Ext.refl (by first | exact mono_eq | exact (fun _ _ _ h k => Rd.ext h k) | exact (fun _ _ _ h k => RB.ext h k) | exact (fun _ _ _ h k => OB.ext h k) | exact (fun _ _ _ h k => RB.extS h k) | exact (fun _ _ _ h k => Rd.ext h (GrownW.ext k)) | exact (fun _ _ _ h k => RP.ext h k) | exact (fun _ _ _ h k => OP.ext h k) | exact (fun _ _ _ h k => Rd.extV h k) | exact (fun _ _ _ h k => RB.extV h k) | exact (fun _ _ _ h k => E0.ext h k) | exact (fun _ _ _ h k => O0.ext h k) | exact (fun _ _ _ h k => RE.ext h k) | exact (fun _ _ _ h k => RE.extD h k) | exact (fun _ _ _ h _ => h) | exact (fun _ _ _ ⟨n, h1, h2⟩ k => ⟨n, h1, k.st _ _ h2⟩)) ?_)
  (refine wpY_assign rfl rfl rfl rfl rfl (by first | exact runs0 | exact runs1 rfl) Ext.refl (by first | exact mono_eq | exact (fun _ _ _ h k => Rd.ext h k) | exact (fun _ _ _ h k => RB.ext h k) | exact (fun _ _ _ h k => OB.ext h k) | exact (fun _ _ _ h k => RB.extS h k) | exact (fun _ _ _ h k => Rd.ext h (GrownW.ext k)) | exact (fun _ _ _ h k => RP.ext h k) | exact (fun _ _ _ h k => OP.ext h k) | exact (fun _ _ _ h k => Rd.extV h k) | exact (fun _ _ _ h k => RB.extV h k) | exact (fun _ _ _ h k => E0.ext h k) | exact (fun _ _ _ h k => O0.ext h k) | exact (fun _ _ _ h k => RE.ext h k) | exact (fun _ _ _ h k => RE.extD h k) | exact (fun _ _ _ h _ => h) | exact (fun _ _ _ ⟨n, h1, h2⟩ k => ⟨n, h1, k.st _ _ h2⟩)) ?_)
  refine wpY_done ?_
  intro w4 hx4 hS4
  iterate 1 (rintro _ rfl)
  rintro v25 h25
  iterate 2 (rintro _ rfl)
  rintro v28 h28
  rintro v9 h9
  rintro v10 h10
  dsimp only [FinV]
  go_simp
  have hx4 : Ext w3 w4 := hx4
  obtain ⟨A9, c9, rfl⟩ := h9.form
  obtain ⟨A10, c10, rfl⟩ := h10.form
  have H9 := Lib.hid h9
  have H10 := Lib.hid h10
  replace HN2 := Lib.hid (HN2.out.ext hx4)
  replace HU2 := Lib.hid (HU2.out.ext hx4)
  replace HB2 := Lib.hid (HB2.out.ext hx4)
  replace HP := Lib.hid (HP.out.ext hx4)
  clear hx4 hS4 h25 h28 h9 h10 y0 y1 y2 y3 HPL HUS
  go_upto_region 5 with fail
  go_cut [52] (fun s52 wx => s52 = .bool false ∧ Ext w4 wx)
  case first =>
    generalize arity n = ar at *
    have har : (ar != ar) = false := by simp
    by_cases h5 : n = 5
    · subst h5
      go_wp2_with fail
      refine (HL.out _).mono ?_
      rintro e w5 ⟨rfl, he5⟩
      go_wp2_with fail
      refine (HAR.out _).mono ?_
      rintro e w6 ⟨rfl, he6⟩
      go_wp2_with fail
      refine (HRA.out _).mono ?_
      rintro e w7 ⟨rfl, rfl⟩
      go_wp2_with fail
      refine (HKE.out _).mono ?_
      rintro e w8 ⟨rfl, rfl⟩
      go_wp2
      go_meet
      exact ⟨rfl, he5.trans he6⟩
    · by_cases h6 : n = 6
      · subst h6
        go_wp2_with fail
        refine (HL.out _).mono ?_
        rintro e w5 ⟨rfl, he5⟩
        go_wp2_with fail
        refine (HAR.out _).mono ?_
        rintro e w6 ⟨rfl, he6⟩
        go_wp2_with fail
        refine (HRA.out _).mono ?_
        rintro e w7 ⟨rfl, rfl⟩
        go_wp2_with fail
        refine (HKE.out _).mono ?_
        rintro e w8 ⟨rfl, rfl⟩
        go_wp2
        go_meet
        exact ⟨rfl, he5.trans he6⟩
      · have g5 : (n == 5) = false := by simpa using h5
        have g6 : (n == 6) = false := by simpa using h6
        rw [HKI.out, g5, g6, Bool.false_or, Bool.false_or] at HKE
        clear h5 h6 HKI
        rcases Bool.eq_false_or_eq_true (n == 7) with g7 | g7
        all_goals
          rw [g7] at HKE
          go_wp2_with fail
          refine (HL.out _).mono ?_
          rintro e w5 ⟨rfl, he5⟩
          go_wp2_with fail
          refine (HAR.out _).mono ?_
          rintro e w6 ⟨rfl, he6⟩
          go_wp2_with fail
          refine (HRA.out _).mono ?_
          rintro e w7 ⟨rfl, rfl⟩
          go_wp2_with fail
          refine (HKE.out _).mono ?_
          rintro e w8 ⟨rfl, rfl⟩
          go_wp2
          go_meet
          exact ⟨rfl, he5.trans he6⟩
  case rest =>
  obtain ⟨rfl, hx5⟩ := hcut
  rename World => w5
  replace H9 := Lib.hid (H9.out.ext hx5)
  replace H10 := Lib.hid (H10.out.ext hx5)
  replace HN2 := Lib.hid (HN2.out.ext hx5)
  replace HU2 := Lib.hid (HU2.out.ext hx5)
  replace HB2 := Lib.hid (HB2.out.ext hx5)
  replace HP := Lib.hid (HP.out.ext hx5)
  clear hx5 HAR HRA HKE HKI
  obtain ⟨y0, y1, y2, y3⟩ := HP.out.at_
  have HC := Lib.hid (HRC.out _ HP.out.v)
  cases hok : gOk (l, out) with
  | false =>
    rw [hok] at HC
    obtain ⟨rfl, rfl⟩ := HNOK.out hok
    obtain rfl := HGU.out rfl
    clear hok HRN HRP HRU HNS HPLN HRC HGP HNOK HGU HUL
    go_wp2_with fail
    refine HC.out.mono ?_
    rintro e w6 ⟨rfl, he⟩
    replace HP := Lib.hid (HP.out.ext he)
    clear he y0 y1 y2 y3 HC
    go_wp2
    go_ret
    exact ⟨rfl, HP.out.x⟩
  | true =>
    rw [hok] at HC
    replace HRN := Lib.hid (HRN.out hok)
    replace HRP := Lib.hid (HRP.out hok)
    replace HRU := Lib.hid (HRU.out hok)
    replace HNS := Lib.hid (HNS.out hok)
    replace HPLN := Lib.hid (HPLN.out hok)
    obtain rfl := HGP.out hok
    clear hok HRC HGP HNOK
    go_wp2_with fail
    refine HC.out.mono ?_
    rintro e w6 ⟨rfl, he⟩
    replace HP := Lib.hid (HP.out.ext he)
    replace H9 := Lib.hid (H9.out.ext he)
    replace H10 := Lib.hid (H10.out.ext he)
    replace HN2 := Lib.hid (HN2.out.ext he)
    replace HU2 := Lib.hid (HU2.out.ext he)
    replace HB2 := Lib.hid (HB2.out.ext he)
    clear he y0 y1 y2 y3 HC
    obtain ⟨y0, y1, y2, y3⟩ := HP.out.at_
    have HC := Lib.hid (HRN.out _ HP.out.v)
    go_wp2_with fail
    refine HC.out.mono ?_
    rintro e w7 ⟨u7, b7, rfl, hu7, hb7, he⟩
    obtain ⟨A7, c7, rfl⟩ := hu7.form
    obtain ⟨B7, d7, rfl⟩ := hb7.form
    have hal := (Ext.refl w7).alloc (ndCs N.op N.kind N.fa N.a (.slice A7 N.ins.length c7) (.slice B7 N.body.length d7))
    have HN7 := Lib.hid (Bx6.new w7 40 (.int .i64 N.op) (.slice A7 N.ins.length c7) (.int .i64 N.kind) (.int .i64 N.fa) (.int .i64 N.a) (.slice B7 N.body.length d7))
    have HU7 := Lib.hid (hu7.ext hal)
    have HB7 := Lib.hid (hb7.ext hal)
    replace HP := Lib.hid ((HP.out.ext he).ext hal)
    replace H9 := Lib.hid ((H9.out.ext he).ext hal)
    replace H10 := Lib.hid ((H10.out.ext he).ext hal)
    replace HN2 := Lib.hid ((HN2.out.ext he).ext hal)
    replace HU2 := Lib.hid ((HU2.out.ext he).ext hal)
    replace HB2 := Lib.hid ((HB2.out.ext he).ext hal)
    clear he hal hu7 hb7 y0 y1 y2 y3 HC HRN
    go_upto_region 10 with fail
    generalize w7.heap.size = r7 at *
    generalize w7.alloc (ndCs N.op N.kind N.fa N.a (.slice A7 N.ins.length c7) (.slice B7 N.body.length d7)) = w8 at *
    go_cut [13, 14] (fun s13 s14 wx => ∃ n13 n14 m13 m14, s13 = .pointer (some ⟨n13, 0, none⟩) ∧ s14 = .pointer (some ⟨n14, 0, none⟩) ∧ Blk wx n13 24 #[.slice (some ⟨m13, 0, none⟩) 1 1, .int .i64 0] ∧ Blk wx n14 24 #[.slice (some ⟨m14, 0, none⟩) 1 1, .int .i64 0] ∧ NodesR 2 wx (.slice (some ⟨m13, 0, none⟩) 1 1) [N] ∧ NodesR (d + 1) wx (.slice (some ⟨m14, 0, none⟩) 1 1) [N] ∧ Ext w8 wx)
    case first =>
      obtain ⟨z0, z1, z2, z3, z4, z5⟩ := HN2.out.at_
      obtain ⟨x0, x1, x2, x3, x4, x5⟩ := HN7.out.at_
      have hA1 := HN2.out.b.lt
      have hB1 := HN7.out.b.lt
      have ha0 : ¬ r = w8.heap.size := by omega
      have ha1 : ¬ r = w8.heap.size + 1 := by omega
      have ha2 : ¬ r = w8.heap.size + 1 + 1 := by omega
      have ha3 : ¬ r = w8.heap.size + 1 + 1 + 1 := by omega
      have hb0 : ¬ r7 = w8.heap.size := by omega
      have hb1 : ¬ r7 = w8.heap.size + 1 := by omega
      have hb2 : ¬ r7 = w8.heap.size + 1 + 1 := by omega
      have hb3 : ¬ r7 = w8.heap.size + 1 + 1 + 1 := by omega
      have hk3 : ∀ (a : Addr) (v : Value) (o1 o2 o3 : Obj), w8.cell? a = some v → (((w8.alloc o1).alloc o2).alloc o3).cell? a = some v := fun a v o1 o2 o3 h => ((((Ext.refl w8).alloc o1).alloc o2).alloc o3).cell h
      have kz0 := fun o1 o2 o3 => hk3 _ _ o1 o2 o3 z0
      have kz1 := fun o1 o2 o3 => hk3 _ _ o1 o2 o3 z1
      have kz2 := fun o1 o2 o3 => hk3 _ _ o1 o2 o3 z2
      have kz3 := fun o1 o2 o3 => hk3 _ _ o1 o2 o3 z3
      have kz4 := fun o1 o2 o3 => hk3 _ _ o1 o2 o3 z4
      have kz5 := fun o1 o2 o3 => hk3 _ _ o1 o2 o3 z5
      have kx0 := fun o1 o2 o3 => hk3 _ _ o1 o2 o3 x0
      have kx1 := fun o1 o2 o3 => hk3 _ _ o1 o2 o3 x1
      have kx2 := fun o1 o2 o3 => hk3 _ _ o1 o2 o3 x2
      have kx3 := fun o1 o2 o3 => hk3 _ _ o1 o2 o3 x3
      have kx4 := fun o1 o2 o3 => hk3 _ _ o1 o2 o3 x4
      have kx5 := fun o1 o2 o3 => hk3 _ _ o1 o2 o3 x5
      clear hk3
      clear HL HP H9 H10 HRP HRU HNS HPLN HGU HUL
      go_region
      all_goals go_wp2
      all_goals go_meet
      all_goals
        refine ⟨_, _, ?_, ?_, rfl, rfl, ?_, ?_, ?_, ?_, ?_⟩
        rotate_left 2
        · first | exact p4b0 | exact p4b1 | exact p4b2 | exact p4b3
        · first | exact p4b0 | exact p4b1 | exact p4b2 | exact p4b3
        · first | exact p4n0 HU2.out HB2.out | exact p4n1 HU2.out HB2.out | exact p4n2 HU2.out HB2.out | exact p4n3 HU2.out HB2.out
        · first | exact p4n0 HU7.out HB7.out | exact p4n1 HU7.out HB7.out | exact p4n2 HU7.out HB7.out | exact p4n3 HU7.out HB7.out
        · exact p4x
    case rest =>
    obtain ⟨n13, n14, m13, m14, rfl, rfl, hb13, hb14, hn13, hn14, hx9⟩ := hcut
    rename World => w9
    replace HP := Lib.hid (HP.out.ext hx9)
    replace H9 := Lib.hid (H9.out.ext hx9)
    replace H10 := Lib.hid (H10.out.ext hx9)
    have HSA := Lib.hid (rSameG_any 2 2 (d + 1) _ _ [N] [N] 0 0 w9 (by omega) ⟨by simp, fun n hn => by
      obtain rfl : n = N := by simpa using hn
      exact ⟨HNS.out.2, HNS.out.1⟩⟩ hn13 hn14)
    have y0 : w9.cell? ⟨n13, 0, none⟩ = some (.slice (some ⟨m13, 0, none⟩) 1 1) := hb13.cell 0
    have y1 : w9.cell? ⟨n13, 1, none⟩ = some (.int .i64 0) := hb13.cell 1
    have z0 : w9.cell? ⟨n14, 0, none⟩ = some (.slice (some ⟨m14, 0, none⟩) 1 1) := hb14.cell 0
    have z1 : w9.cell? ⟨n14, 1, none⟩ = some (.int .i64 0) := hb14.cell 1
    have hss : (has != has) = false := by simp
    clear hb13 hb14 hn13 hn14 hx9 HN2 HN7 HU2 HB2 HU7 HB7 HNS
    go_wp2_with fail
    refine HSA.out.mono ?_
    rintro e w10 ⟨bq, rfl, hbq, he⟩
    obtain rfl : bq = true := hbq.2 rfl
    replace HP := Lib.hid (HP.out.ext he)
    replace H9 := Lib.hid (H9.out.ext he)
    replace H10 := Lib.hid (H10.out.ext he)
    clear he hbq y0 y1 z0 z1 HSA
    obtain ⟨y0, y1, y2, y3⟩ := HP.out.at_
    have HC := Lib.hid (HRP.out _ HP.out.v)
    go_wp2_with fail
    refine HC.out.mono ?_
    rintro e w11 ⟨u11, rfl, ho11, he⟩
    have H11 := Lib.hid ho11.re
    replace HP := Lib.hid (HP.out.ext he)
    replace H9 := Lib.hid (H9.out.ext he)
    replace H10 := Lib.hid (H10.out.ext he)
    clear he ho11 y0 y1 y2 y3 HC HRP
    have HC := Lib.hid (samePl_any _ _ _ _ w11 H9.out H11.out HPLN.out)
    rw [show decide (places l = places l) = true from decide_eq_true rfl] at HC
    obtain ⟨A11, c11, rfl⟩ := H11.out.form
    go_wp2_with fail
    refine HC.out.mono ?_
    rintro e w12 ⟨rfl, he⟩
    replace HP := Lib.hid (HP.out.ext he)
    replace H10 := Lib.hid (H10.out.ext he)
    clear he HC H9 H11
    obtain ⟨y0, y1, y2, y3⟩ := HP.out.at_
    cases has with
    | true =>
      have HC := Lib.hid (HRU.out rfl _ HP.out.v)
      go_wp2_with fail
      refine HC.out.mono ?_
      rintro e w13 ⟨u13, rfl, hu13, he⟩
      replace HP := Lib.hid (HP.out.ext he)
      replace H10 := Lib.hid (H10.out.ext he)
      clear he y0 y1 y2 y3 HC
      obtain ⟨A13, c13, rfl⟩ := hu13.form
      have HC := Lib.hid (samePo_any _ _ _ _ w13 H10.out hu13 HUL.out)
      rw [show decide (us = us) = true from decide_eq_true rfl] at HC
      clear hu13
      go_wp2_with fail
      refine HC.out.mono ?_
      rintro e w14 ⟨rfl, he⟩
      go_wp2
      go_ret
      exact ⟨rfl, HP.out.x.trans he⟩
    | false =>
      obtain rfl := HGU.out rfl
      clear HRU
      go_wp2
      go_ret
      exact ⟨rfl, HP.out.x⟩
theorem graphPlaces_law (w : World) (v : Value) (x : GArg) (hv : v = gAg x.1.1 x.2.2 ∧ NodesR x.1.2 w x.1.1 x.2.1) (u : Value) (q : Pl) (hq : u = plV q) (n : Int) (_ : -9223372036854775808 ≤ n ∧ n ≤ 9223372036854775807) :
    Calls Try.prog 4 #[v, u, .int .i64 n] w fun e w' => e = .returned (.bool true) ∧ Ext w w' := by
  rw [hv.1, hq]
  cases h : largeB x.2.1 with
  | true => exact graphPlaces_large x.1.2 x.1.1 x.2 q n w hv.2 h
  | false => exact graphPlaces_small x.1.2 x.1.1 x.2 q n w hv.2 h
end Go.Proofs.Ytpmikcklkddocaa
