/-
  LaRecs, LaPCfg, LaPOut, LaPLine, RecSort, packed: what the claim needs of them.
-/
import Derived.Test.YtpmgmiiidfconaaGreatDoorPz22
import Derived.Test.YtpmgmiiidfconaaGreatDoorPz23
import Derived.Test.YtpmgmiiidfconaaGreatDoorPz17
import Derived.Test.YtpmgmiiidfconaaGreatDoorPz28
import Derived.Test.YtpmgmiiidfconaaGreatDoorPz18
set_option linter.unusedVariables false
set_option linter.unusedSimpArgs false
namespace Go.Proofs.YtpmgmiiidfconaaGreatDoor
open Go.RowKit Go.Ox Go.Ox.La Go.Shelf
/-- a word as a record; is it one? -/
def rcF (x : W) : Rec.R := ((wnB (Lib.cut x [58]).1).1, (wnB (Lib.cut x [58]).2.1).1)
def rcOk (x : W) : Bool := (Lib.cut x [58]).2.2 && ((wnB (Lib.cut x [58]).1).2 && (wnB (Lib.cut x [58]).2.1).2)
theorem cut_short (x : W) : (Lib.cut x [58]).1.length ≤ x.length ∧ (Lib.cut x [58]).2.1.length ≤ x.length := by
  unfold Lib.cut
  split
  · exact ⟨by rw [List.length_take]; omega, by rw [List.length_drop]; omega⟩
  · exact ⟨Nat.le_refl _, Nat.zero_le _⟩
theorem rec_lit (w : World) (k v : Int) : RE (w.alloc (.cells #[.int .i64 k, .int .i64 v] 66)) (.slice (some ⟨w.heap.size, 0, none⟩) 1 1) [((k, v) : Rec.R)] := RE.lit w #[.int .i64 k, .int .i64 v] 66 1 [((k, v) : Rec.R)] rfl (by omega) rfl
/-- the end of records() -/
structure RecsE (w0 w w' : World) (p : Nat) (l : List W) (u : Value) : Prop where
  o : OE 66 w.heap.size w' u (l.map rcF)
  ws : WsR 60 w0 w' p [] false
  q : ExtQ (fun k => k = p) w w'
attribute [local irreducible] wnB
set_option maxRecDepth 100000 in
set_option maxHeartbeats 8000000 in
theorem wrecords_any (w0 : World) (p : Nat) (l : List W) (w : World) (h : WsR 60 w0 w p l false) (hp : p < w.heap.size) (hw : ∀ x ∈ l, x.length ≤ 1000000) (hl : l.length ≤ 1000000) (hok : ∀ x ∈ l, rcOk x = true) (hm : MaxL w0) :
    Calls Tryz.prog 101 #[.pointer (some ⟨p, 0, none⟩)] w fun e w' => ∃ u, e = .returned u ∧ RecsE w0 w w' p l u := by
  have HL := Lib.hid hl
  have HP := Lib.hid hp
  have HM := Lib.hid hm
  have HSL := Lib.hid (show w0.heap.size ≤ w.heap.size from h.x.size)
  have HS0 := Lib.hid (show ∃ (rs : List Rec.R) (r : List W), WsR 60 w0 w p r false ∧ OE 66 w.heap.size w (.slice none 0 0) rs ∧ rs ++ r.map rcF = l.map rcF ∧ rs.length + r.length = l.length ∧ ∀ x ∈ r, x.length ≤ 1000000 ∧ rcOk x = true from ⟨[], l, h, OE.nilS _ _ _, rfl, by simp, fun x hx => ⟨hw x hx, hok x hx⟩⟩)
  clear h hw hl hp hok hm
  go_enter Tryz.func101, Tryz.ntmps101
  go_wp2
  go_loopw [3] (fun ov wr => (∃ (rs : List Rec.R) (r : List W), WsR 60 w0 wr p r false ∧ OE 66 w.heap.size wr ov rs ∧ rs ++ r.map rcF = l.map rcF ∧ rs.length + r.length = l.length ∧ ∀ x ∈ r, x.length ≤ 1000000 ∧ rcOk x = true) ∧ ExtQ (fun k => k = p) w wr) (fun ov wr => match ov with | .slice _ n _ => l.length - n | _ => 0)
  case atStart => exact ⟨HS0.out, ExtQ.refl _ _⟩
  case round =>
    obtain ⟨⟨rs, r, hws, ho, heq, hlen, hrw⟩, hext⟩ := hrel
    rename World => wr
    have HWS := Lib.hid hws
    have HO := Lib.hid ho
    have HEQ := Lib.hid heq
    have HLEN := Lib.hid hlen
    have HRW := Lib.hid hrw
    have HX := Lib.hid hext
    obtain ⟨AO, cO, rfl⟩ := ho.re.form
    obtain ⟨hlow, hx, A, c, hr, hb⟩ := hws
    have c0 : wr.cell? ⟨p, 0, none⟩ = some (.slice A r.length c) := (hb.cell 0).trans rfl
    have c1 : wr.cell? ⟨p, 1, none⟩ = some (.bool false) := (hb.cell 1).trans rfl
    clear ho hlow hx hr hb heq hlen hrw hext
    cases r with
    | nil =>
      have q0 : ¬ (0 : Int) < (([] : List W).length : Int) := by simp
      have q1 : ¬ 0 < ([] : List W).length := by simp
      go_wp2
      go_ret
      exact ⟨_, rfl, ⟨by have h1 := HEQ.out; rw [List.map_nil, List.append_nil] at h1; rw [← h1]; exact HO.out, HWS.out, HX.out⟩⟩
    | cons x rest =>
      obtain ⟨n, hn⟩ : ∃ n, (x :: rest).length = n := ⟨_, rfl⟩
      rw [hn] at c0
      have q0 : (0 : Int) < (n : Int) := by rw [← hn]; simp; try omega
      have q1 : 0 < n := by rw [← hn]; simp
      clear hn
      have HC := Lib.hid (fun w h => wnext_any w0 p (x :: rest) false w h)
      have HX58 := Lib.hid (fun w hm => cut58_any x w (HRW.out x (List.mem_cons_self ..)).1 hm)
      have hok1 := (HRW.out x (List.mem_cons_self ..)).2
      have hcs := cut_short x
      have hx1 := (HRW.out x (List.mem_cons_self ..)).1
      have hrc : rcF x = ((wnB (Lib.cut x [58]).1).1, (wnB (Lib.cut x [58]).2.1).1) := rfl
      unfold rcOk at hok1
      generalize Lib.cut x [58] = cx at *
      obtain ⟨ka, va, is⟩ := cx
      dsimp only at hok1 hcs hrc HX58
      have HNK := Lib.hid (fun w => wnum_any ka w (by omega))
      have HNV := Lib.hid (fun w => wnum_any va w (by omega))
      generalize wnB ka = bk at *
      generalize wnB va = bv at *
      obtain ⟨kn, kb⟩ := bk
      obtain ⟨vn, vb⟩ := bv
      dsimp only at hok1 hrc HNK HNV
      obtain ⟨rfl, rfl, rfl⟩ : is = true ∧ kb = true ∧ vb = true := by simpa using hok1
      have HRC := Lib.hid hrc
      clear hok1 hcs hx1 hrc
      go_wp2_with fail
      refine (HC.out _ HWS.out).mono ?_
      rintro e w1 ⟨rfl, hws1, hq1⟩
      have HWS1 := Lib.hid (show WsR 60 w0 w1 p rest false from hws1)
      have HQ1 := Lib.hid hq1
      have HO1 := Lib.hid (oe_extQ HO.out hq1 (fun k hk => by have h2 := HP.out; omega))
      clear hws1 hq1 c0 c1
      go_wp2_with fail
      refine (HX58.out _ (HM.out.ext HWS1.out.x)).mono ?_
      rintro e w2 ⟨rfl, he2⟩
      have HWS2 := Lib.hid (HWS1.out.e he2)
      have HQ2 := Lib.hid (HQ1.out.trans (ExtQ.of he2))
      have HO2 := Lib.hid (HO1.out.ext he2)
      clear he2
      go_wp2_with fail
      refine (HNK.out _).mono ?_
      rintro e w3 ⟨rfl, rfl⟩
      go_wp2_with fail
      refine (HNV.out _).mono ?_
      rintro e w3 ⟨rfl, rfl⟩
      obtain ⟨A2, c2, hb2⟩ := ws_blk HWS2.out
      have f1 : w2.frozen? ⟨p, 1, none⟩ = false := hb2.frozen 1
      have e1 := hb2.cell 1
      clear hb2
      go_upto_region 7 with fail
      have hq3 : ExtQ (fun k => k = p) w2 (w2.setCell ⟨p, 1, none⟩ (.bool false)) := ExtQ.setCell (Q := fun k => k = p) (ExtQ.refl _ _) (p := ⟨p, 1, none⟩) rfl _
      have HWS3 := Lib.hid (show WsR 60 w0 (w2.setCell ⟨p, 1, none⟩ (.bool false)) p rest false from by
        obtain ⟨A9, c9, hr9, hb9⟩ := HWS2.out.b
        exact ⟨HWS2.out.low, HWS2.out.x.andQ hq3 (fun k hk => by have h1 : k = p := hk; have := HWS2.out.low; omega), A9, c9, hr9, by simpa using hb9.set_ 1 (.bool false)⟩)
      have HO3 := Lib.hid (oe_extQ HO2.out hq3 (fun k hk => by have h1 := HP.out; intro (e : k = p); omega))
      have HQ3 := Lib.hid ((HX.out.trans HQ2.out).trans hq3)
      clear hq3 e1 f1
      generalize w2.setCell ⟨p, 1, none⟩ _ = w3 at *
      have HLI := Lib.hid (rec_lit w3 kn vn)
      have hxl : Ext w3 (w3.alloc (.cells #[.int .i64 kn, .int .i64 vn] 66)) := (Ext.refl _).alloc _
      have HO4 := Lib.hid (HO3.out.ext hxl)
      have HWS4 := Lib.hid (HWS3.out.e hxl)
      have HQ4 := Lib.hid (HQ3.out.trans (ExtQ.of hxl))
      clear hxl
      go_wp2_with (at_builtin; refine wpList_appE rfl elemM _ _ _ rfl w.heap.size _ _ rs [((kn, vn) : Rec.R)] rfl HO4.out rfl HLI.out (by have h1 := HLEN.out; have h2 := HL.out; rw [List.length_cons] at h1; simp only [List.length_singleton]; omega) (by have h1 := HLEN.out; have h2 := HL.out; rw [List.length_cons] at h1; simp only [List.length_singleton]; unfold maxLen; omega) HQ4.out.size ?_; intro v9 w9 ho9 hb9 hg9)
      obtain ⟨A9, c9, rfl⟩ := ho9.re.form
      exact ⟨⟨⟨rs ++ [(kn, vn)], rest, HWS4.out.bel hb9 HP.out HSL.out, ho9, by
          rw [← HEQ.out, List.map_cons, HRC.out, List.append_assoc]
          rfl, by have := HLEN.out; simp at *; omega, fun y hy => HRW.out y (List.mem_cons_of_mem _ hy)⟩, exq_below HQ4.out hb9⟩, by have := HLEN.out; simp at *; omega⟩
end Go.Proofs.YtpmgmiiidfconaaGreatDoor
set_option linter.unusedVariables false
set_option linter.unusedSimpArgs false
namespace Go.Proofs.YtpmgmiiidfconaaGreatDoor
open Go.RowKit Go.Ox Go.Ox.Gr Go.Ox.Sc Go.Ox.La Go.Shelf
/-- the parser's cells -/
abbrev paCs (k0 k1 k2 k3 : Int) (nv : Value) (out : Int) (iv av : Value) (at_ : Int) : Array Value := #[.int .i64 k0, .int .i64 k1, .int .i64 k2, .int .i64 k3, nv, .int .i64 out, iv, av, .int .i64 at_]
def cfgW : W := [99, 111, 110, 102, 105, 103]
theorem blk_two {w : World} {p q : Nat} {T U : TypeId} {cs ds : Array Value} (h : Blk w p T cs) (k : Blk w q U ds) (ht : T ≠ U) : p ≠ q := by
  rintro rfl
  have h1 : w.heap[p]? = some (.cells cs T (0, 0)) := h
  have h2 : w.heap[p]? = some (.cells ds U (0, 0)) := k
  rw [h1] at h2
  injection h2 with h2
  injection h2 with _ h3
  exact ht h3
attribute [local irreducible] RE OE wnB
set_option maxRecDepth 100000 in
set_option maxHeartbeats 8000000 in
theorem pconfig_any (w0 : World) (p q : Nat) (xs : List W) (n0 n1 n2 n3 k0 k1 k2 k3 : Int) (nv iv av : Value) (out at_ : Int) (w : World) (h : WsR 60 w0 w q (cfgW :: xs) false) (hq : q < w.heap.size)
    (hb : Blk w p 87 (paCs k0 k1 k2 k3 nv out iv av at_)) (hw : ∀ x ∈ xs, x.length ≤ 1000000) (hl : xs.length ≤ 1000000) (hok : wnsOk xs = true) (hn : wnsB xs = [n0, n1, n2, n3]) :
    Calls Tryz.prog 65 #[.pointer (some ⟨p, 0, none⟩), .pointer (some ⟨q, 0, none⟩)] w fun e w' => e = .returned (.bool true) ∧ Blk w' p 87 (paCs n0 n1 n2 n3 nv out iv av 1) ∧ ExtQ (fun k => k = p ∨ k = q) w w' := by
  have HWS := Lib.hid h
  have HB := Lib.hid hb
  have hne : p ≠ q := by
    obtain ⟨A, c, hk⟩ := ws_blk h
    exact blk_two hb hk (by decide)
  have HNE := Lib.hid hne
  have HP := Lib.hid hb.lt
  have HQ := Lib.hid hq
  have HN := Lib.hid (And.intro hok hn)
  have HC1 := Lib.hid (fun w h => wnext_any w0 q (cfgW :: xs) false w h)
  have HC2 := Lib.hid (fun w h hq => wnumbers_any w0 q xs false w h hq hw hl)
  clear h hq hb hw hl hok hn hne
  go_enter Tryz.func65, Tryz.ntmps65
  go_wp2_with fail
  refine (HC1.out _ HWS.out).mono ?_
  rintro e w1 ⟨rfl, hws1, hq1⟩
  have HWS1 := Lib.hid (show WsR 60 w0 w1 q xs false from hws1)
  have HQ1 := Lib.hid hq1
  clear hws1 hq1
  have b1 : ((⟨cfgW.toArray⟩ : ByteArray) == ⟨#[99, 111, 110, 102, 105, 103]⟩) = true := rfl
  go_wp2_with fail
  refine (HC2.out _ HWS1.out (Nat.lt_of_lt_of_le HQ.out HQ1.out.size)).mono ?_
  rintro e w2 ⟨u, rfl, ⟨⟨ns, r, hou, hws2, hns, hnl⟩, hq2⟩⟩
  obtain ⟨hns1, rfl⟩ := hns (by rw [HN.out.1]; rfl)
  rw [HN.out.2] at hns1
  subst hns1
  rw [HN.out.1] at hws2
  have HQ2 := Lib.hid (HQ1.out.trans hq2)
  have HB2 := Lib.hid (HB.out.extQ HQ2.out HNE.out)
  obtain ⟨A, c, rfl⟩ := hou.re.form
  obtain ⟨bb, oo, rfl, a0⟩ := reI1 hou.re (k := 0) (by simp)
  obtain ⟨bb', oo', e1, a1⟩ := reI1 hou.re (k := 1) (by simp)
  injection e1 with e1; injection e1 with e1 e2; subst e1; subst e2
  obtain ⟨bb', oo', e1, a2⟩ := reI1 hou.re (k := 2) (by simp)
  injection e1 with e1; injection e1 with e1 e2; subst e1; subst e2
  obtain ⟨bb', oo', e1, a3⟩ := reI1 hou.re (k := 3) (by simp)
  injection e1 with e1; injection e1 with e1 e2; subst e1; subst e2
  obtain ⟨A2, c2, hb2⟩ := ws_blk hws2
  have d1 : w2.cell? ⟨q, 1, none⟩ = some (.bool false) := (hb2.cell 1).trans rfl
  have HOU := Lib.hid hou
  clear hws2 hq2 hns hnl hb2 hou b1
  rw [Nat.add_zero] at a0
  rw [show ([n0, n1, n2, n3] : List Int).length = 4 from rfl]
  go_upto_region 6 with fail
  refine wp_region_tailY 17 [] [] Ext Ext (fun _ => True) (by kernel_rfl) (by kernel_rfl) (by kernel_rfl) (by kernel_rfl) (by kernel_rfl) (by kernel_rfl) (by kernel_rfl) (by rfl) (by rfl) (by kernel_rfl) (by kernel_rfl) (by kernel_rfl) (fun _ _ _ x y => x.trans y) Ext.refl (fun _ _ x => x) (Ext.refl _).drew (fun _ _ x _ => x) trivial ?_
  refine ya1 ?_
  refine ya1 ?_
  refine ya1 ?_
  refine yl1 a0 ?_
  refine ya1 ?_
  refine ya1 ?_
  refine yl1 a1 ?_
  refine ya1 ?_
  refine ya1 ?_
  refine yl1 a2 ?_
  refine ya1 ?_
  refine ya1 ?_
  refine yl1 a3 ?_
  refine wpY_val rfl rfl (by first | exact runs0 | exact runs1 rfl) Ext.refl rfl ?_; apply Exists.intro; refine ⟨?_, ?_⟩
  · intro a w' hR h1 h2 h3 h4
    have e1 : _ = _ := h1
    have e2 : _ = _ := h2
    have e3 : _ = _ := h3
    have e4 : _ = _ := h4
    have q1 : _ = _ := h1
    rw [Array.getD_eq_getD_getElem?] at q1
    have q2 : _ = _ := h2
    rw [Array.getD_eq_getD_getElem?] at q2
    have q3 : _ = _ := h3
    rw [Array.getD_eq_getD_getElem?] at q3
    have q4 : _ = _ := h4
    rw [Array.getD_eq_getD_getElem?] at q4
    go_simp
    rfl
  refine ya1 ?_
  refine ya1 ?_
  refine ya1 ?_
  refine wpY_done ?_
  intro w3 hx3 hS
  iterate 17 (rintro _ rfl)
  dsimp only [FinV]
  go_simp
  have hx3 : Ext w2 w3 := hx3
  simp only [thenTail, List.drop_succ_cons, List.drop_zero]
  have HB3 := Lib.hid (HB2.out.ext hx3)
  have HQ3 := Lib.hid (HQ2.out.trans (ExtQ.of hx3))
  have hb3 := HB3.out
  have f0 : w3.frozen? ⟨p, 0, none⟩ = false := hb3.frozen 0
  have f1 : w3.frozen? ⟨p, 1, none⟩ = false := hb3.frozen 1
  have f2 : w3.frozen? ⟨p, 2, none⟩ = false := hb3.frozen 2
  have f3 : w3.frozen? ⟨p, 3, none⟩ = false := hb3.frozen 3
  have f8 : w3.frozen? ⟨p, 8, none⟩ = false := hb3.frozen 8
  have z0 := hb3.cell 0
  have z1 := hb3.cell 1
  have z2 := hb3.cell 2
  have z3 := hb3.cell 3
  have z8 := hb3.cell 8
  clear hb3 hx3 hS a0 a1 a2 a3
  go_wp2
  go_ret
  refine ⟨rfl, ?_, ?_⟩
  · simpa using ((((HB3.out.set_ 0 (.int .i64 n0)).set_ 1 (.int .i64 n1)).set_ 2 (.int .i64 n2)).set_ 3 (.int .i64 n3)).set_ 8 (.int .i64 1)
  · have h1 : ExtQ (fun k => k = p ∨ k = q) w w3 := HQ3.out.mono fun k hk => .inr hk
    exact (((((h1.setCell (p := ⟨p, 0, none⟩) (.inl rfl) _).setCell (p := ⟨p, 1, none⟩) (.inl rfl) _).setCell (p := ⟨p, 2, none⟩) (.inl rfl) _).setCell (p := ⟨p, 3, none⟩) (.inl rfl) _).setCell (p := ⟨p, 8, none⟩) (.inl rfl) _)
end Go.Proofs.YtpmgmiiidfconaaGreatDoor
set_option linter.unusedVariables false
set_option linter.unusedSimpArgs false
namespace Go.Proofs.YtpmgmiiidfconaaGreatDoor
open Go.RowKit Go.Ox Go.Ox.Gr Go.Ox.Sc Go.Ox.La Go.Shelf
def outW9 : W := [111, 117, 116]
attribute [local irreducible] RE OE wnB named1
set_option maxRecDepth 100000 in
set_option maxHeartbeats 8000000 in
theorem pout_any (w0 : World) (p q : Nat) (y x : W) (m : Int) (k0 k1 k2 k3 : Int) (nv iv av : Value) (out at_ : Int) (w : World) (h : WsR 60 w0 w q [y, x] false) (hq : q < w.heap.size)
    (hb : Blk w p 87 (paCs k0 k1 k2 k3 nv out iv av at_)) (hw : x.length ≤ 1000000) (hm : named1 x false = (m, true)) :
    Calls Tryz.prog 67 #[.pointer (some ⟨p, 0, none⟩), .pointer (some ⟨q, 0, none⟩)] w fun e w' => e = .returned (.bool true) ∧ Blk w' p 87 (paCs k0 k1 k2 k3 nv m iv av 3) ∧ ExtQ (fun k => k = p ∨ k = q) w w' := by
  have HWS := Lib.hid h
  have HB := Lib.hid hb
  have hne : p ≠ q := by
    obtain ⟨A, c, hk⟩ := ws_blk h
    exact blk_two hb hk (by decide)
  have HNE := Lib.hid hne
  have HC1 := Lib.hid (fun w h => wnext_any w0 q [y, x] false w h)
  have hc2 : ∀ w, WsR 60 w0 w q [x] false → Calls Tryz.prog 100 #[.pointer (some ⟨q, 0, none⟩), .bool false] w fun e w' => e = .returned (.int .i64 m) ∧ WsR 60 w0 w' q [] false ∧ ExtQ (fun k => k = q) w w' := by
    intro w h
    have h1 := wnamed_any w0 q [x] false false w h (by intro z hz; simp at hz; subst hz; exact hw)
    have h2 : named1 (([x] : List W).headD []) false = (m, true) := hm
    rw [h2] at h1
    exact h1
  have HC2 := Lib.hid hc2
  clear h hq hb hw hne hc2 hm
  go_enter Tryz.func67, Tryz.ntmps67
  go_wp2_with fail
  refine (HC1.out _ HWS.out).mono ?_
  rintro e w1 ⟨rfl, hws1, hq1⟩
  have HWS1 := Lib.hid (show WsR 60 w0 w1 q [x] false from hws1)
  have HQ1 := Lib.hid hq1
  clear hws1 hq1
  go_wp2_with fail
  refine (HC2.out _ HWS1.out).mono ?_
  rintro e w3 ⟨rfl, hws2, hq2⟩
  have HQ3 := Lib.hid (HQ1.out.trans hq2)
  have HB3 := Lib.hid (HB.out.extQ HQ3.out HNE.out)
  obtain ⟨A2, c2, hb2⟩ := ws_blk hws2
  have d0 : w3.cell? ⟨q, 0, none⟩ = some (.slice A2 0 c2) := (hb2.cell 0).trans rfl
  have d1 : w3.cell? ⟨q, 1, none⟩ = some (.bool false) := (hb2.cell 1).trans rfl
  have n1 : ¬ p = q := HNE.out
  have n2 : ¬ q = p := fun e => HNE.out e.symm
  have hb3 := HB3.out
  have f5 : w3.frozen? ⟨p, 5, none⟩ = false := hb3.frozen 5
  have f8 : w3.frozen? ⟨p, 8, none⟩ = false := hb3.frozen 8
  have z5 := hb3.cell 5
  have z8 := hb3.cell 8
  clear hb3 hws2 hq2 hb2
  go_wp2
  go_ret
  refine ⟨rfl, ?_, ?_⟩
  · simpa using (HB3.out.set_ 5 (.int .i64 m)).set_ 8 (.int .i64 3)
  · have h1 : ExtQ (fun k => k = p ∨ k = q) w w3 := HQ3.out.mono fun k hk => .inr hk
    exact ((h1.setCell (p := ⟨p, 5, none⟩) (.inl rfl) _).setCell (p := ⟨p, 8, none⟩) (.inl rfl) _)
end Go.Proofs.YtpmgmiiidfconaaGreatDoor
set_option linter.unusedVariables false
set_option linter.unusedSimpArgs false
namespace Go.Proofs.YtpmgmiiidfconaaGreatDoor
open Go.RowKit Go.Ox Go.Ox.Gr Go.Ox.Sc Go.Ox.La Go.Shelf
attribute [local irreducible] RE OE wnB named1
set_option maxRecDepth 100000 in
set_option maxHeartbeats 4000000 in
theorem pline_0 (p q : Nat) (x : W) (xs : List W) (k0 k1 k2 k3 : Int) (nv iv av : Value) (out at_ : Int) (b : Bool) (R : World → Prop) (w : World) (hb : Blk w p 87 (paCs k0 k1 k2 k3 nv out iv av at_)) (hat : at_ = 0)
    (hc : Calls Tryz.prog 65 #[.pointer (some ⟨p, 0, none⟩), .pointer (some ⟨q, 0, none⟩)] w fun e w' => e = .returned (.bool b) ∧ R w') :
    Calls Tryz.prog 33 #[.pointer (some ⟨p, 0, none⟩), .pointer (some ⟨q, 0, none⟩)] w fun e w' => e = .returned (.bool b) ∧ R w' := by
  subst hat
  have z8 := hb.cell 8
  have HC := Lib.hid hc
  clear hc
  go_enter Tryz.func33, Tryz.ntmps33
  go_wp2_with fail
  refine HC.out.mono ?_
  rintro e w1 ⟨rfl, hr1⟩
  have HR1 := Lib.hid hr1
  clear hr1
  go_wp2
  go_ret
  exact ⟨rfl, HR1.out⟩
set_option maxRecDepth 100000 in
set_option maxHeartbeats 4000000 in
theorem pline_2 (p q : Nat) (x : W) (xs : List W) (k0 k1 k2 k3 : Int) (nv iv av : Value) (out at_ : Int) (b : Bool) (R : World → Prop) (w : World) (hb : Blk w p 87 (paCs k0 k1 k2 k3 nv out iv av at_)) (hat : at_ = 2)
    (hc : Calls Tryz.prog 66 #[.pointer (some ⟨p, 0, none⟩), .pointer (some ⟨q, 0, none⟩)] w fun e w' => e = .returned (.bool b) ∧ R w') :
    Calls Tryz.prog 33 #[.pointer (some ⟨p, 0, none⟩), .pointer (some ⟨q, 0, none⟩)] w fun e w' => e = .returned (.bool b) ∧ R w' := by
  subst hat
  have z8 := hb.cell 8
  have HC := Lib.hid hc
  clear hc
  go_enter Tryz.func33, Tryz.ntmps33
  go_wp2_with fail
  refine HC.out.mono ?_
  rintro e w1 ⟨rfl, hr1⟩
  have HR1 := Lib.hid hr1
  clear hr1
  go_wp2
  go_ret
  exact ⟨rfl, HR1.out⟩
set_option maxRecDepth 100000 in
set_option maxHeartbeats 4000000 in
theorem pline_1o (p q : Nat) (x : W) (xs : List W) (k0 k1 k2 k3 : Int) (nv iv av : Value) (out at_ : Int) (b : Bool) (R : World → Prop) (w : World) (hb : Blk w p 87 (paCs k0 k1 k2 k3 nv out iv av at_)) (hat : at_ = 1) (hr : ∃ A c, w.cell? ⟨q, 0, none⟩ = some (.slice A (x :: xs).length c) ∧ RE w (.slice A (x :: xs).length c) (x :: xs)) (hx : x = [111, 117, 116])
    (hc : Calls Tryz.prog 67 #[.pointer (some ⟨p, 0, none⟩), .pointer (some ⟨q, 0, none⟩)] w fun e w' => e = .returned (.bool b) ∧ R w') :
    Calls Tryz.prog 33 #[.pointer (some ⟨p, 0, none⟩), .pointer (some ⟨q, 0, none⟩)] w fun e w' => e = .returned (.bool b) ∧ R w' := by
  subst hat
  have z8 := hb.cell 8
  have HC := Lib.hid hc
  clear hc
  obtain ⟨A, c, d0, hr⟩ := hr
  obtain ⟨bb, oo, rfl, a0⟩ := reW1 hr (k := 0) (by simp)
  rw [Nat.add_zero, List.getElem_cons_zero] at a0
  rw [List.length_cons] at d0
  have q1 : 0 < xs.length + 1 := by omega
  clear hr
  subst hx
  have b1 : ((⟨([111, 117, 116] : W).toArray⟩ : ByteArray) == ⟨#[111, 117, 116]⟩) = true := rfl
  go_enter Tryz.func33, Tryz.ntmps33
  go_wp2_with fail
  refine HC.out.mono ?_
  rintro e w1 ⟨rfl, hr1⟩
  have HR1 := Lib.hid hr1
  clear hr1
  go_wp2
  go_ret
  exact ⟨rfl, HR1.out⟩
set_option maxRecDepth 100000 in
set_option maxHeartbeats 4000000 in
theorem pline_1n (p q : Nat) (x : W) (xs : List W) (k0 k1 k2 k3 : Int) (nv iv av : Value) (out at_ : Int) (b : Bool) (R : World → Prop) (w : World) (hb : Blk w p 87 (paCs k0 k1 k2 k3 nv out iv av at_)) (hat : at_ = 1) (hr : ∃ A c, w.cell? ⟨q, 0, none⟩ = some (.slice A (x :: xs).length c) ∧ RE w (.slice A (x :: xs).length c) (x :: xs)) (hx : ¬ x = [111, 117, 116])
    (hc : Calls Tryz.prog 68 #[.pointer (some ⟨p, 0, none⟩), .pointer (some ⟨q, 0, none⟩)] w fun e w' => e = .returned (.bool b) ∧ R w') :
    Calls Tryz.prog 33 #[.pointer (some ⟨p, 0, none⟩), .pointer (some ⟨q, 0, none⟩)] w fun e w' => e = .returned (.bool b) ∧ R w' := by
  subst hat
  have z8 := hb.cell 8
  have HC := Lib.hid hc
  clear hc
  obtain ⟨A, c, d0, hr⟩ := hr
  obtain ⟨bb, oo, rfl, a0⟩ := reW1 hr (k := 0) (by simp)
  rw [Nat.add_zero, List.getElem_cons_zero] at a0
  rw [List.length_cons] at d0
  have q1 : 0 < xs.length + 1 := by omega
  clear hr
  have b1 : ((⟨x.toArray⟩ : ByteArray) == ⟨#[111, 117, 116]⟩) = false := bs_f (y := [111, 117, 116]) hx
  have b2 : ¬ (⟨x.toArray⟩ : ByteArray) = ⟨#[111, 117, 116]⟩ := bs_n (y := [111, 117, 116]) hx
  have b3 : (x == [111, 117, 116]) = false := by simpa using hx
  go_enter Tryz.func33, Tryz.ntmps33
  go_wp2_with fail
  refine HC.out.mono ?_
  rintro e w1 ⟨rfl, hr1⟩
  have HR1 := Lib.hid hr1
  clear hr1
  go_wp2
  go_ret
  exact ⟨rfl, HR1.out⟩
set_option maxRecDepth 100000 in
set_option maxHeartbeats 4000000 in
theorem pline_3 (p q : Nat) (x : W) (xs : List W) (k0 k1 k2 k3 : Int) (nv iv av : Value) (out at_ : Int) (b : Bool) (R : World → Prop) (w : World) (hb : Blk w p 87 (paCs k0 k1 k2 k3 nv out iv av at_)) (hat : 3 ≤ at_)
    (hc : Calls Tryz.prog 69 #[.pointer (some ⟨p, 0, none⟩), .pointer (some ⟨q, 0, none⟩)] w fun e w' => e = .returned (.bool b) ∧ R w') :
    Calls Tryz.prog 33 #[.pointer (some ⟨p, 0, none⟩), .pointer (some ⟨q, 0, none⟩)] w fun e w' => e = .returned (.bool b) ∧ R w' := by
  have z8 := hb.cell 8
  have HC := Lib.hid hc
  clear hc
  have b1 : (at_ == 0) = false := by simp; omega
  have b2 : (at_ == 2) = false := by simp; omega
  have b3 : (at_ == 1) = false := by simp; omega
  have b4 : ¬ at_ = 0 := by omega
  have b5 : ¬ at_ = 1 := by omega
  have b6 : ¬ at_ = 2 := by omega
  go_enter Tryz.func33, Tryz.ntmps33
  go_wp2_with fail
  refine HC.out.mono ?_
  rintro e w1 ⟨rfl, hr1⟩
  have HR1 := Lib.hid hr1
  clear hr1
  go_wp2
  go_ret
  exact ⟨rfl, HR1.out⟩
end Go.Proofs.YtpmgmiiidfconaaGreatDoor
namespace Go.Proofs.YtpmgmiiidfconaaGreatDoor
open Go.RowKit Go.Ox Go.Shelf
attribute [local irreducible] OP RP
set_option linter.unusedVariables false
theorem ltM (x y : Mom.M) : Go.Proofs.ltOf Mom.cmp x y = true ↔ Mom.lt x y := by
  unfold Go.Proofs.ltOf
  simp only [decide_eq_true_eq]
  exact Mom.cmp_lt
theorem ltM_f (x y : Mom.M) : Go.Proofs.ltOf Mom.cmp x y = false ↔ ¬ Mom.lt x y := by
  rw [← ltM, Bool.not_eq_true]
theorem swoM : Go.Sort.SWO (Go.Proofs.ltOf Mom.cmp) where
  irrefl x := by rw [ltM_f]; exact Mom.lt_irrefl x
  trans x y z h1 h2 := by rw [ltM] at *; exact Mom.lt_trans h1 h2
  ntrans x y z h1 h2 := by
    rw [ltM_f] at *
    intro h3
    rcases Mom.lt_conn x y with h | h | h
    · exact h1 h
    · subst h; exact h2 h3
    · rcases Mom.lt_conn y z with k | k | k
      · exact h2 k
      · subst k; exact h1 h3
      · exact Mom.lt_irrefl _ (Mom.lt_trans h3 (Mom.lt_trans k h))
theorem cmpLaysM (blk off size : Nat) (w : World) : Go.Proofs.CmpLays Tryz.prog 122 #[] encM 2 Mom.cmp blk off size w :=
  fun _ _ _ _ x y => compare_grown x y _
unseal OP in
theorem pV_enc (l : List Mom.M) : pV l = l.flatMap encM := rfl
theorem sortM_any (v : Value) (l : List Mom.M) (base : Nat) (w : World) (ho : OP 66 base w v l) (hl : l.length ≤ 1000000000) :
    Calls Tryz.prog 121 #[v, .func (.func 122) #[] #[]] w fun e w' =>
      e = .returned (.tuple #[]) ∧ ∃ s : List Mom.M, s.Perm l ∧ s.Pairwise (fun a b => ¬ Mom.lt b a) ∧ OP 66 base w' v s ∧ w.grownBy w' v.ownBlock := by
  rcases ho.own.2 with ⟨rfl, h0⟩ | ⟨g, cap, cur, rfl, hb, _⟩
  · obtain rfl := List.eq_nil_of_length_eq_zero h0
    refine (AnyF.slices_SortFunc_none Tryz.sortM none 0 _ w).mono ?_
    rintro e w' ⟨h1, rfl⟩
    exact ⟨h1, [], List.Perm.refl _, List.Pairwise.nil, OP.nilS _ _ _, World.grownBy.refl _ _⟩
  · have eg : ∀ args w, (callFunc 122 args).run Tryz.prog w = .ok (.enter 122 args) w := enters_of Tryz.func122 (by kernel_rfl) rfl
    have hH := holdsK_of_own (enc := encM) (fun _ => rfl) (by omega) ho.own
    have hcon := AnyQ.slices_SortFunc Tryz.sortM 2 Tryz.isAgg66 Tryz.sizeOf66 encM (fun _ => rfl) (fun x u hu => by simp at hu; rcases hu with rfl | rfl <;> rfl) Mom.cmp swoM 122 #[] g 0 cap l.toArray w eg
      (cmpLaysM g 0 _ w) hH (ho.own.lt g rfl).2 (by simp; omega)
    refine hcon.mono ?_
    rintro e w' ⟨h1, d', n, os, hp, hs, hw⟩
    have hsz : d'.size = l.length := by have := hp.1; simpa using this
    obtain ⟨q1, q2⟩ := own_sorted (enc := encM) (fun _ => rfl) (by omega) ho.own hsz hw
    refine ⟨h1, d'.toList, by simpa using perm_of hp, (sorted_of hs (by simpa using hsz)).imp (fun {a b} h => (ltM_f _ _).1 h), ?_, q2⟩
    unfold OP
    rw [pV_enc, show d'.toList.length = l.length by simpa using hsz]
    exact q1
set_option maxRecDepth 100000 in
set_option maxHeartbeats 400000 in
theorem sorted_any (v : Value) (l : List Rec.R) (w : World) (hv : RP w v l) (hl : l.length ≤ 1000000) :
    Calls Tryz.prog 94 #[v] w fun e w' => ∃ v', e = .returned v' ∧ OP 66 w.heap.size w' v' (Rec.srt l) ∧ Ext w w' := by
  have HV := Lib.hid hv
  obtain ⟨A, c, rfl⟩ := hv.form
  clear hv
  go_enter Tryz.func94, Tryz.ntmps94
  go_wp2_with fail
  refine (cloneM_any _ l w HV.out (by omega)).mono ?_
  rintro e w1 ⟨v1, rfl, ho1, he1⟩
  have HO1 := Lib.hid ho1
  obtain ⟨A1, c1, rfl⟩ := ho1.rp.form
  have HX1 := Lib.hid he1
  clear ho1 he1
  go_wp2_with fail
  refine (sortM_any _ l w.heap.size w1 HO1.out (by omega)).mono ?_
  rintro e w2 ⟨rfl, s, hp, hs, ho2, hg2⟩
  have hx2 : Ext w w2 := HX1.out.grown hg2 fun k hk => (HO1.out.own.lt k hk).1
  rw [Rec.srt_is (l := l) hs hp] at ho2
  go_wp2
  go_ret
  exact ⟨_, rfl, ho2, hx2⟩
set_option maxRecDepth 100000 in
set_option maxHeartbeats 400000 in
theorem sort_ok (v : Value) (l : List Rec.R) (w : World) (hv : RP w v l) (hl : l.length ≤ 1000000) (hm : Rec.may l = 0) :
    Calls Tryz.prog 62 #[v] w fun e w' => ∃ v', e = .returned (.tuple #[v', .int .i64 0]) ∧ OP 66 w.heap.size w' v' (Rec.srt l) ∧ Ext w w' := by
  have HM := Lib.hid (may_any v l w hv hl)
  have HV := Lib.hid hv
  rw [hm] at HM
  obtain ⟨A, c, rfl⟩ := hv.form
  clear hv hm
  go_enter Tryz.func62, Tryz.ntmps62
  go_wp2_with fail
  refine HM.out.mono ?_
  rintro e w1 ⟨rfl, he1⟩
  have HX1 := Lib.hid he1
  clear he1
  go_wp2_with fail
  refine (sorted_any _ l w1 (HV.out.ext HX1.out) hl).mono ?_
  rintro e w2 ⟨v2, rfl, ho2, he2⟩
  go_wp2
  go_ret2
  exact ⟨_, rfl, ho2.low HX1.out.size, HX1.out.trans he2⟩
end Go.Proofs.YtpmgmiiidfconaaGreatDoor
