/-
  rec.Minus: a map that counts, and slices.DeleteFunc with a function that counts down.
-/
import Derived.Test.YtgmaeeihfoicmaaRecAll
import Derived.Test.YtgmaeeihfoicmaaRecDel
import Derived.Test.YtgmaeeihfoicmaaRecMath
import Derived.Test.YtgmaeeihfoicmaaRecSame
import Derived.Test.YtgmaeeihfoicmaaRowE
import Derived.Test.YtgmaeeihfoicmaaEff
namespace Go.Proofs.Ytgmaeeihfoicmaa
open Go.RowKit Go.Ox Go.Shelf
attribute [local irreducible] OP RP
set_option linter.unusedVariables false
set_option linter.unusedSimpArgs false

abbrev vI (n : Int) : Value := .int .i64 n
theorem eqInR (x y : Rec.R) (w : World) : (Op.equalIn 10000 23 (mV x) (mV y)).run Try.prog w = .ok (decide (x = y)) w := by
  obtain ⟨a, b⟩ := x
  obtain ⟨c, d⟩ := y
  exact eqInM a b c d w
theorem chkR (e : Bool) (x : Rec.R) (w : World) : (Instr.checkKey e 10000 23 (mV x)).run Try.prog w = .ok () w := by
  kernel_rfl
theorem bitsR (x : Rec.R) : Instr.sameBits 10000 (mV x) (mV x) = true := by
  show Instr.sameBits (9999 + 1) (mV x) (mV x) = true
  simp [Instr.sameBits]
theorem keyR : KeyE Try.prog 23 mV where
  eq := eqInR
  chk := chkR
  now x y es i b n := ⟨_, Try.underlying23, rfl, rfl⟩
  bits := bitsR
theorem zeroI (w : World) : (zeroValue 3).run Try.prog w = .ok (vI 0) w := by kernel_rfl
theorem mV_inj (x y : Rec.R) (h : mV x = mV y) : x = y := by
  obtain ⟨a, b⟩ := x
  obtain ⟨c, d⟩ := y
  simp at h
  obtain ⟨rfl, rfl⟩ := h
  rfl

/-- an entry's value and stamp -/
def EntF (b : Nat) (k : Rec.R) (q : Int) (v : Value) (w : World) : Prop := ∃ n : Nat, v = .tuple #[vI q, .int .i64 (n : Int)] ∧ Stp mV b k n w
def StpF (b : Nat) (k : Rec.R) (v : Value) (w : World) : Prop := ∃ n : Nat, v = .int .i64 (n : Int) ∧ Stp mV b k n w

set_option maxRecDepth 100000 in
set_option maxHeartbeats 1000000 in
theorem minus1_any (b g : Nat) (f : Rec.R → Int) (x : Rec.R) (w : World) (hb : Blk w g 77 #[.map (some b)]) (hL : LK mV vI 0 b f w) (hf : -4000000000 ≤ f x ∧ f x ≤ 4000000000) :
    Calls Try.prog 57 #[mV x, .pointer (some ⟨g, 0, none⟩)] w fun e w' => e = .returned (.bool (decide (1 ≤ f x))) ∧ LK mV vI 0 b (Rec.less1 f x) w' ∧ ExtM b w w' := by
  obtain ⟨x1, x2⟩ := x
  have hxl : Ext w (w.alloc (.cells #[.int .i64 x1, .int .i64 x2] 23)) := (Ext.refl _).alloc _
  have HX := Lib.hid hxl
  have HB := Lib.hid (hb.ext hxl)
  have HL := Lib.hid (hL.at_ (hxl.block hL.lt))
  have HN := Lib.hid (Blk.new w 23 #[.int .i64 x1, .int .i64 x2])
  have HFX := Lib.hid (show ∀ v, updF f (x1, x2) v = fun z => if z = (x1, x2) then v else f z from fun v => rfl)
  have HLS := Lib.hid (show Rec.less1 f (x1, x2) = updF f (x1, x2) (f (x1, x2) - 1) from rfl)
  have hlo := hf.1
  have hhi := hf.2
  have hwr : IntKind.i64.wrap (f (x1, x2) - 1) = f (x1, x2) - 1 := IntWalk.i64_in _ (by omega)
  have HLK := Lib.hid (fun (w : World) (h : LK mV vI 0 b f w) => h.look keyR Try.underlying77 zeroI (x1, x2))
  have HEN := Lib.hid (fun (w : World) (h : LK mV vI 0 b f w) => h.entry keyR Try.underlying77 zeroI (x1, x2))
  rw [HLS.out]
  clear hb hL hf hxl
  generalize f (x1, x2) = q at *
  go_enter Try.func57, Try.ntmps57
  go_wp2
  generalize w.alloc (.cells #[.int .i64 x1, .int .i64 x2] 23) = w0 at *
  have c0 : w0.cell? ⟨g, 0, none⟩ = some (.map (some b)) := HB.out.cell 0
  have d0 : w0.cell? ⟨w.heap.size, 0, none⟩ = some (.int .i64 x1) := HN.out.cell 0
  have d1 : w0.cell? ⟨w.heap.size, 1, none⟩ = some (.int .i64 x2) := HN.out.cell 1
  refine wp_region_tailY 6 [] [] (RM mV vI 0 b) (RM mV vI 0 b) (fun _ => True) (by kernel_rfl) (by kernel_rfl) (by kernel_rfl) (by kernel_rfl) (by kernel_rfl) (by kernel_rfl) (by kernel_rfl) (by rfl) (by rfl) (by kernel_rfl) (by kernel_rfl) (by kernel_rfl) (fun _ _ _ x y => x.trans y) (RM.refl b) (fun _ _ x => x) (RM.drew b _) (fun _ _ x _ => x) trivial ?_
  refine wpY_val rfl rfl (by first | exact runs0 | exact runs1 rfl) (RM.refl b) rfl ?_; apply Exists.intro; refine ⟨?_, ?_⟩
  · intro a w' hR h1
    have e1 : _ = _ := h1
    have hl0 := hR.m.cells _ _ c0
    go_simp
    rfl
  refine wpY_val rfl rfl (by first | exact runs0 | exact runs1 rfl) (RM.refl b) rfl ?_; apply Exists.intro; refine ⟨?_, ?_⟩
  · intro a w' hR h1
    have e1 : _ = _ := h1
    have hl0 := hR.m.cells _ _ d0
    have hl1 := hR.m.cells _ _ d1
    go_simp
    rfl
  refine wpY_val rfl rfl (by first | exact runs0 | exact runs1 rfl) (RM.refl b) rfl ?_; apply Exists.intro; refine ⟨?_, ?_⟩
  · intro a w' hR h1 h2
    have e1 : _ = _ := h1
    have e2 : _ = _ := h2
    have hl := HLK.out w' (hR.lk _ HL.out)
    go_simp
    rfl
  refine wpY_val rfl rfl (by first | exact runs0 | exact runs1 rfl) (RM.refl b) rfl ?_; apply Exists.intro; refine ⟨?_, ?_⟩
  · intro a w' hR h1
    have e1 : _ = _ := h1
    go_simp
    rfl
  refine wpY_call (EntF b (x1, x2) q) rfl rfl (by first | exact runs0 | exact runs1 rfl) rfl (by first | exact mono_eq | exact (fun _ _ _ h k => Rd.ext h k) | exact (fun _ _ _ h k => RB.ext h k) | exact (fun _ _ _ h k => OB.ext h k) | exact (fun _ _ _ h k => RB.extS h k) | exact (fun _ _ _ h k => Rd.ext h (GrownW.ext k)) | exact (fun _ _ _ h k => RP.ext h k) | exact (fun _ _ _ h k => OP.ext h k) | exact (fun _ _ _ h k => Rd.extV h k) | exact (fun _ _ _ h k => RB.extV h k) | exact (fun _ _ _ h k => E0.ext h k) | exact (fun _ _ _ h k => O0.ext h k) | exact (fun _ _ _ h k => RE.ext h k) | exact (fun _ _ _ h k => RE.extD h k) | exact (fun _ _ _ h _ => h) | exact (fun _ _ _ ⟨n, h1, h2⟩ k => ⟨n, h1, k.st _ _ h2⟩)) ?_ ?_
  · intro a w' hR h1 h2 K hK
    have e1 : _ = _ := h1
    have e2 : _ = _ := h2
    obtain ⟨wE, nE, hrunE, hstE, hrmE⟩ := HEN.out w' (hR.lk _ HL.out)
    go_simp
    exact hK _ _ hrmE ⟨nE, rfl, hstE⟩
  refine wpY_call (StpF b (x1, x2)) rfl rfl (by first | exact runs0 | exact runs1 rfl) rfl (by first | exact mono_eq | exact (fun _ _ _ h k => Rd.ext h k) | exact (fun _ _ _ h k => RB.ext h k) | exact (fun _ _ _ h k => OB.ext h k) | exact (fun _ _ _ h k => RB.extS h k) | exact (fun _ _ _ h k => Rd.ext h (GrownW.ext k)) | exact (fun _ _ _ h k => RP.ext h k) | exact (fun _ _ _ h k => OP.ext h k) | exact (fun _ _ _ h k => Rd.extV h k) | exact (fun _ _ _ h k => RB.extV h k) | exact (fun _ _ _ h k => E0.ext h k) | exact (fun _ _ _ h k => O0.ext h k) | exact (fun _ _ _ h k => RE.ext h k) | exact (fun _ _ _ h k => RE.extD h k) | exact (fun _ _ _ h _ => h) | exact (fun _ _ _ ⟨n, h1, h2⟩ k => ⟨n, h1, k.st _ _ h2⟩)) ?_ ?_
  · intro a w' hR h1 K hK
    obtain ⟨x, ex, fx⟩ : ∃ x, a.tmps.getD 8 undef = x ∧ (EntF b (x1, x2) q) x w' := ⟨_, rfl, h1⟩
    obtain ⟨n9, rfl, hs9⟩ := fx
    go_simp
    exact hK _ _ (RM.refl _ _) ⟨n9, rfl, hs9⟩
  refine wpY_done ?_
  intro w5 hx5 hS
  iterate 4 (rintro _ rfl)
  rintro v8 h8
  rintro v9 h9
  dsimp only [FinV]
  go_simp
  obtain ⟨n9, rfl, hs9⟩ := h9
  clear h8
  obtain ⟨w6, hst, hL6, hx6⟩ := (hx5.lk _ HL.out).store mV_inj hs9 (q - 1) 77
  have HX6 := Lib.hid (hx5.m.trans hx6)
  have HL6 := Lib.hid hL6
  have hlo := hL6.look keyR Try.underlying77 zeroI (x1, x2)
  rw [show updF f (x1, x2) (q - 1) (x1, x2) = q - 1 from if_pos rfl] at hlo
  have c0 := HX6.out.cells _ _ c0
  have d0 := HX6.out.cells _ _ d0
  have d1 := HX6.out.cells _ _ d1
  simp only [thenTail, List.drop_succ_cons, List.drop_zero]
  go_wp2
  rw [hst]
  simp only [Result.andThen]
  rw [Oper.upon_skip]
  go_wp2
  go_ret
  exact ⟨by congr 2, HL6.out, (ExtM.of HX.out).trans HX6.out⟩

def delC (f : Rec.R → Int) (x : Rec.R) : Bool × (Rec.R → Int) := (decide (1 ≤ f x), Rec.less1 f x)
theorem keep_dropC : ∀ (l : List Rec.R) (f : Rec.R → Int), keepS delC f l = Rec.dropC f l
  | [], f => rfl
  | x :: l, f => by
    unfold keepS Rec.dropC
    have h := keep_dropC l (Rec.less1 f x)
    show (if decide (1 ≤ f x) = true then keepS delC (Rec.less1 f x) l else x :: keepS delC (Rec.less1 f x) l) = _
    rw [h]
    by_cases hq : 1 ≤ f x <;> simp [hq]
theorem delC_bd (x : Rec.R) : ∀ (l : List Rec.R) (f : Rec.R → Int), f x - l.length ≤ stS delC f l x ∧ stS delC f l x ≤ f x
  | [], f => by simp [stS]
  | y :: l, f => by
    have h := delC_bd x l (Rec.less1 f y)
    have e : stS delC f (y :: l) = stS delC (Rec.less1 f y) l := rfl
    rw [e]
    have h2 : Rec.less1 f y x ≤ f x ∧ f x - 1 ≤ Rec.less1 f y x := by
      unfold Rec.less1
      split
      · rename_i q; rw [q]; omega
      · omega
    simp only [List.length_cons]
    omega
theorem cnt_snocR (l : List Rec.R) (x : Rec.R) : Rec.cntF (l ++ [x]) = updF (Rec.cntF l) x (Rec.cntF l x + 1) := by
  funext z
  unfold Rec.cntF updF
  rw [List.count_append]
  by_cases h : z = x
  · subst h; simp
  · rw [if_neg h, List.count_singleton]
    simp [Ne.symm h]
theorem cntF_bd (l : List Rec.R) (x : Rec.R) : 0 ≤ Rec.cntF l x ∧ Rec.cntF l x ≤ l.length := by
  unfold Rec.cntF
  have := List.count_le_length (a := x) (l := l)
  omega

set_option maxRecDepth 100000 in
set_option maxHeartbeats 1000000 in
theorem minus_err (v u : Value) (a b : List Rec.R) (w : World) (hv : RP w v a) (hu : RP w u b) (ha : a.length ≤ 1000000) (hb : b.length ≤ 1000000) (hm : Rec.allP [a, b] ≠ 0) :
    Calls Try.prog 28 #[v, u] w fun e w' => e = .returned (.tuple #[.slice none 0 0, .int .i64 (Rec.allP [a, b])]) ∧ Ext w w' := by
  have HA := Lib.hid (all_any _ _ _ (RRS.two hv hu 24) (by intro l hl; simp at hl; rcases hl with rfl | rfl <;> assumption))
  have h2 : (Rec.allP [a, b] != 0) = true := by simpa using hm
  generalize Rec.allP [a, b] = m at *
  obtain ⟨A1, c1, rfl⟩ := hv.form
  obtain ⟨A2, c2, rfl⟩ := hu.form
  clear hv hu hm ha hb
  go_enter Try.func28, Try.ntmps28
  go_wp2_with fail
  refine HA.out.mono ?_
  rintro e w1 ⟨rfl, he1⟩
  go_wp2
  go_ret2
  exact ⟨rfl, ((Ext.refl _).alloc _).trans he1⟩

/-- what the loop of Minus leaves behind k records -/
structure MinI (w1 : World) (g m : Nat) (f : Rec.R → Int) (w : World) : Prop where
  box : Blk w g 77 #[.map (some m)]
  lk : LK mV vI 0 m f w
  ext : Ext w1 w
theorem MinI.go {w1 w w' : World} {g m : Nat} {f : Rec.R → Int} (h : MinI w1 g m f w) (he : Ext w w') : MinI w1 g m f w' := ⟨h.box.ext he, h.lk.at_ (he.block h.lk.lt), h.ext.trans he⟩
theorem MinI.set {w1 w w' : World} {g m : Nat} {f f' : Rec.R → Int} (h : MinI w1 g m f w) (hg : g ≠ m) (hm : w1.heap.size ≤ m) (hx : ExtM m w w') (hl : LK mV vI 0 m f' w') : MinI w1 g m f' w' := ⟨h.box.extM hx hg, hl, h.ext.andM hx hm⟩

set_option maxRecDepth 100000 in
set_option maxHeartbeats 4000000 in
theorem minus_ok (v u : Value) (a b : List Rec.R) (w : World) (hv : RP w v a) (hu : RP w u b) (ha : a.length ≤ 1000000) (hb : b.length ≤ 1000000) (hm : Rec.allP [a, b] = 0) :
    Calls Try.prog 28 #[v, u] w fun e w' => ∃ v', e = .returned (.tuple #[v', .int .i64 0]) ∧ OP 23 w.heap.size w' v' (Rec.dif a b) ∧ Ext w w' := by
  have HA := Lib.hid (all_any _ _ _ (RRS.two hv hu 24) (by intro l hl; simp at hl; rcases hl with rfl | rfl <;> assumption))
  rw [hm] at HA
  have HX0 := Lib.hid ((Ext.refl w).alloc (.cells #[v, u] 24))
  have HV := Lib.hid hv
  have HU := Lib.hid hu
  have HSO := Lib.hid (fun w h => sorted_any v a w h ha)
  have HSL := Lib.hid (Rec.srt_len a)
  have HDF := Lib.hid (show Rec.dif a b = keepS delC (Rec.cntF b) (Rec.srt a) from (keep_dropC _ _).symm)
  rw [HDF.out]
  clear HDF
  generalize Rec.srt a = S at *
  have hmm := @run_makeMap Try.prog
  obtain ⟨A1, c1, rfl⟩ := hv.form
  obtain ⟨A2, c2, rfl⟩ := hu.form
  clear hv hu hm
  go_enter Try.func28, Try.ntmps28
  go_wp2_with fail
  refine HA.out.mono ?_
  rintro e w1 ⟨rfl, he1⟩
  have HX1 := Lib.hid (HX0.out.trans he1)
  clear he1 HA HX0
  go_wp2
  have hm0 := LK.new (kV := mV) (vV := vI) (z := 0) w1
  have hbx := Blk.new (w1.alloc (.map #[] 0)) 77 #[.map (some w1.heap.size)]
  have hs : (w1.alloc (.map #[] 0)).heap.size = w1.heap.size + 1 := by simp
  rw [hs] at hbx
  have HI := Lib.hid (show MinI w1 (w1.heap.size + 1) w1.heap.size (Rec.cntF []) _ from ⟨hbx, (show LK mV vI 0 w1.heap.size (Rec.cntF []) (w1.alloc (.map #[] 0)) from hm0).at_ (((Ext.refl _).alloc _).block hm0.lt), ((Ext.refl _).alloc _).alloc _⟩)
  clear hm0 hbx hs hmm
  generalize (w1.alloc (.map #[] 0)).alloc (.cells #[.map (some w1.heap.size)] 77) = w2 at *
  obtain ⟨m, hm⟩ : ∃ m, w1.heap.size = m := ⟨_, rfl⟩
  rw [hm] at HI ⊢
  have hgm : m + 1 ≠ m := by omega
  obtain ⟨g, hg⟩ : ∃ g, m + 1 = g := ⟨_, rfl⟩
  rw [hg] at HI hgm ⊢
  have HGM := Lib.hid (And.intro hgm hm)
  clear hgm hm hg
  go_loopw [9, 20] (fun _ iv wr => ∃ k : Nat, k ≤ b.length ∧ iv = .int .i64 k ∧ MinI w1 g m (Rec.cntF (b.take k)) wr) (fun _ iv _ => b.length - (intOf iv).toNat)
  case atStart => exact ⟨0, Nat.zero_le _, rfl, HI.out⟩
  case round =>
    obtain ⟨k, hk, rfl, hi⟩ := hrel
    have HIK := Lib.hid hi
    by_cases hlt : k < b.length
    · have g1 : (k : Int) < (b.length : Int) := by omega
      have g0 : 0 ≤ (k : Int) := by omega
      obtain ⟨bA, oA, rfl, xa, xb⟩ := ((HU.out.ext HX1.out).ext hi.ext).at_ hlt
      have HSN := Lib.hid (show Rec.cntF (b.take (k + 1)) = updF (Rec.cntF (b.take k)) b[k] (Rec.cntF (b.take k) b[k] + 1) by rw [List.take_succ_eq_append_getElem hlt, cnt_snocR])
      have hbd := cntF_bd (b.take k) b[k]
      rw [List.length_take] at hbd
      generalize b[k] = x at *
      obtain ⟨x1, x2⟩ := x
      dsimp only at *
      have hxl : Ext wr (wr.alloc (.cells #[.int .i64 x1, .int .i64 x2] 23)) := (Ext.refl _).alloc _
      have HX := Lib.hid (hi.go hxl)
      have HN := Lib.hid (Blk.new wr 23 #[.int .i64 x1, .int .i64 x2])
      have hwr : IntKind.i64.wrap (Rec.cntF (b.take k) (x1, x2) + 1) = Rec.cntF (b.take k) (x1, x2) + 1 := IntWalk.i64_in _ (by omega)
      have HLK := Lib.hid (fun (w : World) (h : LK mV vI 0 m (Rec.cntF (b.take k)) w) => h.look keyR Try.underlying77 zeroI (x1, x2))
      have HEN := Lib.hid (fun (w : World) (h : LK mV vI 0 m (Rec.cntF (b.take k)) w) => h.entry keyR Try.underlying77 zeroI (x1, x2))
      rw [show IntKind.i64.wrap = IntKind.i64.wrap from rfl] at hwr
      clear hi hxl hbd
      generalize hq : Rec.cntF (b.take k) (x1, x2) = q at *
      clear hq
      go_wp2
      generalize w.alloc (.cells #[.int .i64 x1, .int .i64 x2] 23) = w0 at *
      have c0 := HX.out.box.cell 0
      have d0 := HN.out.cell 0
      have d1 := HN.out.cell 1
      generalize wr.alloc (.cells #[.int .i64 x1, .int .i64 x2] 23) = w3 at *
      have c0 : w3.cell? ⟨g, 0, none⟩ = some (.map (some m)) := c0
      have d0 : w3.cell? ⟨wr.heap.size, 0, none⟩ = some (.int .i64 x1) := d0
      have d1 : w3.cell? ⟨wr.heap.size, 1, none⟩ = some (.int .i64 x2) := d1
      refine wp_region_tailY 6 [] [] (RM mV vI 0 m) (RM mV vI 0 m) (fun _ => True) (by kernel_rfl) (by kernel_rfl) (by kernel_rfl) (by kernel_rfl) (by kernel_rfl) (by kernel_rfl) (by kernel_rfl) (by rfl) (by rfl) (by kernel_rfl) (by kernel_rfl) (by kernel_rfl) (fun _ _ _ x y => x.trans y) (RM.refl m) (fun _ _ x => x) (RM.drew m _) (fun _ _ x _ => x) trivial ?_
      refine wpY_val rfl rfl (by first | exact runs0 | exact runs1 rfl) (RM.refl m) rfl ?_; apply Exists.intro; refine ⟨?_, ?_⟩
      · intro a w' hR h1
        have e1 : _ = _ := h1
        have hl0 := hR.m.cells _ _ c0
        go_simp
        rfl
      refine wpY_val rfl rfl (by first | exact runs0 | exact runs1 rfl) (RM.refl m) rfl ?_; apply Exists.intro; refine ⟨?_, ?_⟩
      · intro a w' hR h1
        have e1 : _ = _ := h1
        have hl0 := hR.m.cells _ _ d0
        have hl1 := hR.m.cells _ _ d1
        go_simp
        rfl
      refine wpY_val rfl rfl (by first | exact runs0 | exact runs1 rfl) (RM.refl m) rfl ?_; apply Exists.intro; refine ⟨?_, ?_⟩
      · intro a w' hR h1 h2
        have e1 : _ = _ := h1
        have e2 : _ = _ := h2
        have hl := HLK.out w' (hR.lk _ HX.out.lk)
        go_simp
        rfl
      refine wpY_val rfl rfl (by first | exact runs0 | exact runs1 rfl) (RM.refl m) rfl ?_; apply Exists.intro; refine ⟨?_, ?_⟩
      · intro a w' hR h1
        have e1 : _ = _ := h1
        go_simp
        rfl
      refine wpY_call (EntF m (x1, x2) q) rfl rfl (by first | exact runs0 | exact runs1 rfl) rfl (by first | exact mono_eq | exact (fun _ _ _ h k => Rd.ext h k) | exact (fun _ _ _ h k => RB.ext h k) | exact (fun _ _ _ h k => OB.ext h k) | exact (fun _ _ _ h k => RB.extS h k) | exact (fun _ _ _ h k => Rd.ext h (GrownW.ext k)) | exact (fun _ _ _ h k => RP.ext h k) | exact (fun _ _ _ h k => OP.ext h k) | exact (fun _ _ _ h k => Rd.extV h k) | exact (fun _ _ _ h k => RB.extV h k) | exact (fun _ _ _ h k => E0.ext h k) | exact (fun _ _ _ h k => O0.ext h k) | exact (fun _ _ _ h k => RE.ext h k) | exact (fun _ _ _ h k => RE.extD h k) | exact (fun _ _ _ h _ => h) | exact (fun _ _ _ ⟨n, h1, h2⟩ k => ⟨n, h1, k.st _ _ h2⟩)) ?_ ?_
      · intro a w' hR h1 h2 K hK
        have e1 : _ = _ := h1
        have e2 : _ = _ := h2
        obtain ⟨wE, nE, hrunE, hstE, hrmE⟩ := HEN.out w' (hR.lk _ HX.out.lk)
        go_simp
        exact hK _ _ hrmE ⟨nE, rfl, hstE⟩
      refine wpY_call (StpF m (x1, x2)) rfl rfl (by first | exact runs0 | exact runs1 rfl) rfl (by first | exact mono_eq | exact (fun _ _ _ h k => Rd.ext h k) | exact (fun _ _ _ h k => RB.ext h k) | exact (fun _ _ _ h k => OB.ext h k) | exact (fun _ _ _ h k => RB.extS h k) | exact (fun _ _ _ h k => Rd.ext h (GrownW.ext k)) | exact (fun _ _ _ h k => RP.ext h k) | exact (fun _ _ _ h k => OP.ext h k) | exact (fun _ _ _ h k => Rd.extV h k) | exact (fun _ _ _ h k => RB.extV h k) | exact (fun _ _ _ h k => E0.ext h k) | exact (fun _ _ _ h k => O0.ext h k) | exact (fun _ _ _ h k => RE.ext h k) | exact (fun _ _ _ h k => RE.extD h k) | exact (fun _ _ _ h _ => h) | exact (fun _ _ _ ⟨n, h1, h2⟩ k => ⟨n, h1, k.st _ _ h2⟩)) ?_ ?_
      · intro a w' hR h1 K hK
        obtain ⟨x, ex, fx⟩ : ∃ x, a.tmps.getD 28 undef = x ∧ (EntF m (x1, x2) q) x w' := ⟨_, rfl, h1⟩
        obtain ⟨n9, rfl, hs9⟩ := fx
        go_simp
        exact hK _ _ (RM.refl _ _) ⟨n9, rfl, hs9⟩
      refine wpY_done ?_
      intro w5 hx5 hS
      iterate 4 (rintro _ rfl)
      rintro v8 h8
      rintro v9 h9
      dsimp only [FinV]
      go_simp
      obtain ⟨n9, rfl, hs9⟩ := h9
      obtain ⟨w6, hst, hL6, hx6⟩ := (hx5.lk _ HX.out.lk).store mV_inj hs9 (q + 1) 77
      have HX6 := Lib.hid (HX.out.set HGM.out.1 (Nat.le_of_eq HGM.out.2) (hx5.m.trans hx6) hL6)
      simp only [thenTail, List.drop_succ_cons, List.drop_zero]
      go_wp2
      rw [hst]
      simp only [Result.andThen]
      rw [Oper.upon_skip]
      go_wp2
      exact ⟨⟨k + 1, by omega, by go_num, by rw [HSN.out]; exact HX6.out⟩, by simp [intOf]; omega⟩
    · have hk2 : k = b.length := by omega
      subst hk2
      have g1 : ¬ (b.length : Int) < (b.length : Int) := by omega
      rw [List.take_length] at HIK
      clear hi
      have c0 : wr.cell? ⟨g, 0, none⟩ = some (.map (some m)) := HIK.out.box.cell 0
      go_wp2_with fail
      refine (HSO.out _ ((HV.out.ext HX1.out).ext HIK.out.ext)).mono ?_
      rintro e w4 ⟨v4, rfl, ho4, he4⟩
      have HO4 := Lib.hid ho4
      have HI4 := Lib.hid (HIK.out.go he4)
      have hgl := HIK.out.box.lt
      have hml := HIK.out.lk.lt
      have hsl := HSL.out
      obtain ⟨ob, hob, hob2⟩ : ∃ ob, wr.heap.size ≤ ob ∧ ∀ k, v4.ownBlock = some k → k = ob := by
        cases hh : v4.ownBlock with
        | none => exact ⟨wr.heap.size, Nat.le_refl _, fun k hk => by cases hk⟩
        | some k => exact ⟨k, (OP.own ho4 |>.lt k hh).1, fun j hj => by injection hj with hj; exact hj.symm⟩
      have eg : ∀ args w, (callFunc 57 args).run Try.prog w = .ok (.enter 57 args) w := enters_of Try.func57 (by kernel_rfl) rfl
      have HDEL := Lib.hid (delMs_any delC 57 #[.pointer (some ⟨g, 0, none⟩)] eg (fun f W => Blk W g 77 #[.map (some m)] ∧ LK mV vI 0 m f W) (fun k => k = m) ob wr.heap.size
        (fun f W W' h hx => ⟨h.1.extQ hx (by omega), h.2.at_ (hx.block m h.2.lt (by omega))⟩) (by omega) v4 S w4 ho4.oe hob2 (fun k hk => by have := HI4.out.lk.lt; omega) (Rec.cntF b) ⟨HI4.out.box, HI4.out.lk⟩ (by omega)
        (fun j hj W h => by
          have hbd := delC_bd S[j] (S.take j) (Rec.cntF b)
          have hcb := cntF_bd b S[j]
          rw [List.length_take] at hbd
          refine (minus1_any m g (stS delC (Rec.cntF b) (S.take j)) S[j] W h.1 h.2 (by omega)).mono ?_
          rintro e W' ⟨h1, h2, h3⟩
          refine ⟨h1, ⟨h.1.extM h3 HGM.out.1, ?_⟩, ExtQ.extM h3 rfl⟩
          rw [stS_take hj]
          exact h2))
      obtain ⟨A4, c4, rfl⟩ := ho4.rp.form
      clear ho4 he4 eg hob2 hsl
      go_wp2_with fail
      refine HDEL.out.mono ?_
      rintro e w5 ⟨v5, rfl, ho5, _, _, hx5⟩
      go_wp2
      go_ret2
      have hx14 : Ext w1 w4 := HI4.out.ext
      refine ⟨_, rfl, (OE.op ho5).low (Nat.le_trans HX1.out.size HIK.out.ext.size), HX1.out.trans (hx14.andQ hx5 fun k hk => ?_)⟩
      have := HGM.out.2
      have := HIK.out.ext.size
      rcases hk with rfl | rfl <;> omega
end Go.Proofs.Ytgmaeeihfoicmaa
