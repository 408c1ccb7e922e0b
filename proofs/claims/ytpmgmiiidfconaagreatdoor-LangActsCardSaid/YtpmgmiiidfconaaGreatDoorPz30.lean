/-
  RecRef, packed: what the claim needs of them.
-/
import Derived.Test.YtpmgmiiidfconaaGreatDoorPz29
import Derived.Test.YtpmgmiiidfconaaGreatDoorPz10
import Derived.Test.YtpmgmiiidfconaaGreatDoorPz09
import Derived.Test.YtpmgmiiidfconaaGreatDoorPz02
namespace Go.Proofs.YtpmgmiiidfconaaGreatDoor
open Go.RowKit Go.Ox Go.Shelf
attribute [local irreducible] OP RP
set_option linter.unusedVariables false
set_option linter.unusedSimpArgs false
/-- a slice's length -/
def slLen : Value → Nat
  | .slice _ n _ => n
  | _ => 0
unseal RP in
theorem RP.lo {t e : TypeId} {z : Value} {bytes c : Nat} {P : Program} {A : Option Addr} {l : List (Int × Int)} (el : Elem P t e z 2 bytes) {w : World} (h : RP w (.slice A l.length c) l) {k : Nat} (hk : k ≤ l.length) :
    ∃ A', (∀ w', (Instr.slice t (.slice A l.length c) (some (.int .i64 (k : Int))) none none).run P w' = .ok (.slice A' (l.length - k) (c - k)) w') ∧ RP w (.slice A' (l.length - k) (c - k)) (l.drop k) := by
  obtain ⟨A', h1, h2⟩ := Rd.lo el h hk (k : Int) rfl
  rw [pV_drop] at h2
  refine ⟨A', h1, ?_⟩
  unfold RP
  rw [List.length_drop]
  exact h2
unseal RP in
theorem RP.hi {t e : TypeId} {z : Value} {bytes c : Nat} {P : Program} {A : Option Addr} {l : List (Int × Int)} (el : Elem P t e z 2 bytes) {w : World} (h : RP w (.slice A l.length c) l) {k : Nat} (hk : k ≤ l.length) :
    (∀ w', (Instr.slice t (.slice A l.length c) none (some (.int .i64 (k : Int))) none).run P w' = .ok (.slice A k c) w') ∧ RP w (.slice A k c) (l.take k) := by
  obtain ⟨A0, c0, he, h⟩ := h
  injection he with h1 h2 h3
  subst h1; subst h3
  obtain ⟨i, hi, hz, hs, hb⟩ := el.info
  have hnc := h.nc
  refine ⟨fun w' => ?_, ?_⟩
  · have : ((k : Int) ≤ (c : Int)) := by omega
    simp [Instr.slice, run_underlying el.under, Instr.sliceBounds, run_sliceBound w' .i64 (k : Int) c .sliceAcap (by omega) this, sizeOf, typeInfo, hi]
    cases A <;> simp [Addr.add]
  · refine ⟨A, c, ?_, ?_⟩
    · rw [List.length_take, Nat.min_eq_left hk]
    · rw [List.length_take, Nat.min_eq_left hk, ← pV_take]
      exact h.take hk
unseal RP in
theorem RP.lo1 {t e : TypeId} {z : Value} {bytes c : Nat} {P : Program} {A : Option Addr} {l : List (Int × Int)} (el : Elem P t e z 2 bytes) {w : World} (h : RP w (.slice A l.length c) l) (hk : 1 ≤ l.length) :
    ∃ A', (∀ w', (Instr.slice t (.slice A l.length c) (some (.int .i64 1)) none none).run P w' = .ok (.slice A' (l.length - 1) (c - 1)) w') ∧ RP w (.slice A' (l.length - 1) (c - 1)) (l.drop 1) := by
  obtain ⟨A', h1, h2⟩ := Rd.lo el h hk (1 : Int) rfl
  have h3 := pV_drop l 1
  rw [h3] at h2
  refine ⟨A', h1, ?_⟩
  unfold RP
  rw [List.length_drop]
  exact h2
theorem own_lit0 (w : World) (E : Nat) : OP E w.heap.size (w.alloc (.cells #[] E)) (.slice (some ⟨w.heap.size, 0, none⟩) 0 0) [] := by
  unfold OP
  exact World.ownsRow_lit w _ 0 (Nat.le_refl _) (by unfold maxLen; omega) rfl
set_option maxRecDepth 100000 in
set_option maxHeartbeats 2000000 in
theorem rsort_short (v : Value) (l : List Rec.R) (w : World) (hv : RP w v l) (hl : l.length < 2) :
    Calls Tryz.prog 73 #[v] w fun e w' => ∃ v', e = .returned v' ∧ OP 66 w.heap.size w' v' (Rec.srt l) ∧ Ext w w' := by
  obtain ⟨A, c, rfl⟩ := hv.form
  have g : (l.length : Int) < 2 := by omega
  have hx : Ext w (w.alloc (.cells #[] 66)) := (Ext.refl _).alloc _
  have HV := Lib.hid (hv.ext hx)
  have HO := Lib.hid (own_lit0 w 66)
  have HX := Lib.hid hx
  have HS := Lib.hid (Rec.srt_short hl)
  have HL := Lib.hid hl
  clear hv hl hx
  go_enter Tryz.func73, Tryz.ntmps73
  go_wp2_with (at_builtin; refine wpList_app rfl elemM _ _ _ rfl w.heap.size _ 0 [] rfl HO.out.own _ l.length (pV l) rfl HV.out.rd (one_pV _) (by have := HL.out; omega) (by have := HL.out; unfold maxLen; omega) HX.out.size ?_; intro v6 w6 ha)
  go_ret
  rw [HS.out]
  exact ⟨_, rfl, OP.of0 ha.own, ha.ext HX.out rfl HO.out.own⟩
set_option maxRecDepth 100000 in
set_option maxHeartbeats 8000000 in
theorem rsort_step (v : Value) (l : List Rec.R) (w : World) (hv : RP w v l) (hl : 2 ≤ l.length) (hl2 : l.length ≤ 1000000)
    (ih : ∀ (v : Value) (r : List Rec.R) (w : World), RP w v r → r.length < l.length → Calls Tryz.prog 73 #[v] w fun e w' => ∃ v', e = .returned v' ∧ OP 66 w.heap.size w' v' (Rec.srt r) ∧ Ext w w') :
    Calls Tryz.prog 73 #[v] w fun e w' => ∃ v', e = .returned v' ∧ OP 66 w.heap.size w' v' (Rec.srt l) ∧ Ext w w' := by
  obtain ⟨A, c, rfl⟩ := hv.form
  obtain ⟨h, hh⟩ : ∃ h, h = l.length / 2 := ⟨_, rfl⟩
  have g : ¬ (l.length : Int) < 2 := by omega
  have e2 : (l.length : Int).tdiv 2 = (h : Int) := by rw [Int.tdiv_eq_ediv_of_nonneg (by omega)]; omega
  have e2b : (l.length : Int) / 2 = (h : Int) := by omega
  have e4 : IntKind.i64.wrap (h : Int) = (h : Int) := IntWalk.i64_in _ (by omega)
  have e2c : IntKind.i64.wrap ((l.length : Int).tdiv 2) = (h : Int) := by rw [e2]; exact e4
  have e2d : IntKind.i64.wrap ((l.length : Int) / 2) = (h : Int) := by rw [e2b]; exact e4
  obtain ⟨hhi, rhi⟩ := RP.hi (k := h) elemM hv (by omega)
  obtain ⟨A9, hlo, rlo⟩ := RP.lo (k := h) elemM hv (by omega)
  have HHI := Lib.hid rhi
  have HLO := Lib.hid rlo
  have HI1 := Lib.hid (fun w1 (he : Ext w w1) => ih _ (l.take h) w1 (rhi.ext he) (by rw [List.length_take]; omega))
  have HI2 := Lib.hid (fun w1 (he : Ext w w1) => ih _ (l.drop h) w1 (rlo.ext he) (by rw [List.length_drop]; omega))
  have HPM := Lib.hid (show (Rec.srt (l.take h) ++ Rec.srt (l.drop h)).Perm l by
    have := ((Rec.srt_perm (l.take h)).append (Rec.srt_perm (l.drop h)))
    rwa [List.take_append_drop] at this)
  have hs1 := Rec.srt_len (l.take h)
  have hs2 := Rec.srt_len (l.drop h)
  rw [List.length_take] at hs1
  rw [List.length_drop] at hs2
  have HAS := Lib.hid (Rec.srt_asc (l.take h))
  have HBS := Lib.hid (Rec.srt_asc (l.drop h))
  clear ih hv rhi rlo
  generalize Rec.srt (l.take h) = SA at *
  generalize Rec.srt (l.drop h) = SB at *
  have hSA : SA.length ≤ 1000000 := by omega
  have hSB : SB.length ≤ 1000000 := by omega
  clear hs1 hs2 hh
  go_enter Tryz.func73, Tryz.ntmps73
  go_wp2
  refine yx ?_
  refine ya ?_
  refine wpY_call (fun v w => RP w v SA) rfl rfl (by first | exact runs0 | exact runs1 rfl) rfl (by first | exact mono_eq | exact (fun _ _ _ h k => Rd.ext h k) | exact (fun _ _ _ h k => RB.ext h k) | exact (fun _ _ _ h k => OB.ext h k) | exact (fun _ _ _ h k => RB.extS h k) | exact (fun _ _ _ h k => Rd.ext h (GrownW.ext k)) | exact (fun _ _ _ h k => RP.ext h k) | exact (fun _ _ _ h k => OP.ext h k) | exact (fun _ _ _ h k => Rd.extV h k) | exact (fun _ _ _ h k => RB.extV h k) | exact (fun _ _ _ h k => E0.ext h k) | exact (fun _ _ _ h k => O0.ext h k) | exact (fun _ _ _ h k => RE.ext h k) | exact (fun _ _ _ h k => RE.extD h k) | exact (fun _ _ _ h _ => h) | exact (fun _ _ _ ⟨n, h1, h2⟩ k => ⟨n, h1, k.st _ _ h2⟩) | exact (fun _ _ _ h k => OE.ext h k) | exact (fun _ _ _ ⟨n, h1, h2, h3⟩ k => ⟨n, h1, h2, h3.ext k⟩)) ?_ ?_
  · intro a w' hR h1 K hK
    have e1 : _ = _ := h1
    go_simp
    refine (HI1.out w' hR).mono ?_
    rintro e w2 ⟨v9, rfl, ho, he⟩
    exact hK _ _ he ho.rp
  refine ya ?_
  refine wpY_call (fun v w => RP w v SB) rfl rfl (by first | exact runs0 | exact runs1 rfl) rfl (by first | exact mono_eq | exact (fun _ _ _ h k => Rd.ext h k) | exact (fun _ _ _ h k => RB.ext h k) | exact (fun _ _ _ h k => OB.ext h k) | exact (fun _ _ _ h k => RB.extS h k) | exact (fun _ _ _ h k => Rd.ext h (GrownW.ext k)) | exact (fun _ _ _ h k => RP.ext h k) | exact (fun _ _ _ h k => OP.ext h k) | exact (fun _ _ _ h k => Rd.extV h k) | exact (fun _ _ _ h k => RB.extV h k) | exact (fun _ _ _ h k => E0.ext h k) | exact (fun _ _ _ h k => O0.ext h k) | exact (fun _ _ _ h k => RE.ext h k) | exact (fun _ _ _ h k => RE.extD h k) | exact (fun _ _ _ h _ => h) | exact (fun _ _ _ ⟨n, h1, h2⟩ k => ⟨n, h1, k.st _ _ h2⟩) | exact (fun _ _ _ h k => OE.ext h k) | exact (fun _ _ _ ⟨n, h1, h2, h3⟩ k => ⟨n, h1, h2, h3.ext k⟩)) ?_ ?_
  · intro a w' hR h1 K hK
    have e1 : _ = _ := h1
    go_simp
    refine (HI2.out w' hR).mono ?_
    rintro e w2 ⟨v9, rfl, ho, he⟩
    exact hK _ _ he ho.rp
  (refine wpY_assign rfl rfl rfl rfl rfl (by first | exact runs0 | exact runs1 rfl) Ext.refl (by first | exact mono_eq | exact (fun _ _ _ h k => Rd.ext h k) | exact (fun _ _ _ h k => RB.ext h k) | exact (fun _ _ _ h k => OB.ext h k) | exact (fun _ _ _ h k => RB.extS h k) | exact (fun _ _ _ h k => Rd.ext h (GrownW.ext k)) | exact (fun _ _ _ h k => RP.ext h k) | exact (fun _ _ _ h k => OP.ext h k) | exact (fun _ _ _ h k => Rd.extV h k) | exact (fun _ _ _ h k => RB.extV h k) | exact (fun _ _ _ h k => E0.ext h k) | exact (fun _ _ _ h k => O0.ext h k) | exact (fun _ _ _ h k => RE.ext h k) | exact (fun _ _ _ h k => RE.extD h k) | exact (fun _ _ _ h _ => h) | exact (fun _ _ _ ⟨n, h1, h2⟩ k => ⟨n, h1, k.st _ _ h2⟩) | exact (fun _ _ _ h k => OE.ext h k) | exact (fun _ _ _ ⟨n, h1, h2, h3⟩ k => ⟨n, h1, h2, h3.ext k⟩)) ?_)
  (refine wpY_assign rfl rfl rfl rfl rfl (by first | exact runs0 | exact runs1 rfl) Ext.refl (by first | exact mono_eq | exact (fun _ _ _ h k => Rd.ext h k) | exact (fun _ _ _ h k => RB.ext h k) | exact (fun _ _ _ h k => OB.ext h k) | exact (fun _ _ _ h k => RB.extS h k) | exact (fun _ _ _ h k => Rd.ext h (GrownW.ext k)) | exact (fun _ _ _ h k => RP.ext h k) | exact (fun _ _ _ h k => OP.ext h k) | exact (fun _ _ _ h k => Rd.extV h k) | exact (fun _ _ _ h k => RB.extV h k) | exact (fun _ _ _ h k => E0.ext h k) | exact (fun _ _ _ h k => O0.ext h k) | exact (fun _ _ _ h k => RE.ext h k) | exact (fun _ _ _ h k => RE.extD h k) | exact (fun _ _ _ h _ => h) | exact (fun _ _ _ ⟨n, h1, h2⟩ k => ⟨n, h1, k.st _ _ h2⟩) | exact (fun _ _ _ h k => OE.ext h k) | exact (fun _ _ _ ⟨n, h1, h2, h3⟩ k => ⟨n, h1, h2, h3.ext k⟩)) ?_)
  refine wpY_done ?_
  intro w5 hx5 hS5
  iterate 5 (rintro _ rfl)
  rintro v17 h17
  iterate 5 (rintro _ rfl)
  rintro v23 h23
  rintro v3 h3
  rintro v4 h4
  dsimp only [FinV]
  go_simp
  have hx5 : Ext w w5 := hx5
  have HX5 := Lib.hid hx5
  have HRA := Lib.hid h3
  have HRB := Lib.hid h4
  obtain ⟨AA0, cA0, rfl⟩ := h3.form
  obtain ⟨AB0, cB0, rfl⟩ := h4.form
  clear hx5 hS5 h17 h23 h3 h4 hhi hlo HHI HLO HI1 HI2 e2 e2b e4 e2c e2d g
  go_wp2
  go_loopw [3, 4, 5] (fun a b o wr => ∃ (i j : Nat) (out : List Rec.R), i ≤ SA.length ∧ j ≤ SB.length ∧ RP w5 a (SA.drop i) ∧ RP w5 b (SB.drop j) ∧ OP 66 w5.heap.size wr o out ∧ Rec.Mer SA SB i j out ∧ Ext w5 wr) (fun a b _ _ => slLen a + slLen b)
  case atStart => exact ⟨0, 0, [], Nat.zero_le _, Nat.zero_le _, HRA.out, HRB.out, OP.nilS _ _ _, Rec.Mer.start _ _, Ext.refl _⟩
  case round =>
    obtain ⟨i, j, out, hi, hj, hra, hrb, ho, hmer, hext⟩ := hrel
    rename World => wA
    obtain ⟨DA, hDA⟩ : ∃ D, D = SA.drop i := ⟨_, rfl⟩
    obtain ⟨DB, hDB⟩ : ∃ D, D = SB.drop j := ⟨_, rfl⟩
    rw [← hDA] at hra
    rw [← hDB] at hrb
    obtain ⟨hlA1, hlA2⟩ : DA.length + i ≤ SA.length ∧ SA.length ≤ DA.length + i := by rw [hDA, List.length_drop]; omega
    obtain ⟨hlB1, hlB2⟩ : DB.length + j ≤ SB.length ∧ SB.length ≤ DB.length + j := by rw [hDB, List.length_drop]; omega
    have hout : out.length ≤ i + j := by
      have := hmer.perm.length_eq
      rw [List.length_append, List.length_take, List.length_take] at this
      omega
    obtain ⟨AA, cA, rfl⟩ := hra.form
    obtain ⟨AB, cB, rfl⟩ := hrb.form
    obtain ⟨AO, cO, rfl⟩ := ho.rp.form
    have HRA2 := Lib.hid hra
    have HRB2 := Lib.hid hrb
    have HO := Lib.hid ho
    have HMER := Lib.hid hmer
    have HE := Lib.hid hext
    have HDA := Lib.hid hDA
    have HDB := Lib.hid hDB
    have HOUT := Lib.hid (show out.length ≤ 2000000 by omega)
    clear ho hmer hext hDA hDB
    by_cases hA : 0 < DA.length
    · have gA : 0 < (DA.length : Int) := by omega
      by_cases hB : 0 < DB.length
      · have gB : 0 < (DB.length : Int) := by omega
        have gB2 : ((DB.length : Int) == 0) = false := by rw [beq_eq_false_iff_ne]; omega
        obtain ⟨bA, oA, rfl, xa, xb⟩ := hra.at_ (k := 0) hA
        obtain ⟨bB, oB, rfl, ya, yb⟩ := hrb.at_ (k := 0) hB
        have hdA : SA[i]'(by omega) = DA[0] := by simp [HDA.out]
        have hdB : SB[j]'(by omega) = DB[0] := by simp [HDB.out]
        have HLE := Lib.hid (fun (hq : Mom.cmp DA[0] DB[0] ≤ 0) => HMER.out.left HAS.out HBS.out (by omega) (fun hj2 => by
          rw [hdA, hdB, ← Mom.cmp_lt, Mom.cmp_flip]; omega))
        have HGT := Lib.hid (fun (hq : ¬ Mom.cmp DA[0] DB[0] ≤ 0) => HMER.out.right HAS.out HBS.out (by omega) (fun hi2 => by
          rw [hdA, hdB, ← Mom.cmp_lt, Mom.cmp_flip]; omega))
        rw [hdA] at HLE
        rw [hdB] at HGT
        have HCM := Lib.hid (fun w => rcompare_any DA[0] DB[0] w)
        clear hdA hdB hra hrb
        generalize DA[0] = x at *
        generalize DB[0] = y at *
        obtain ⟨x1, x2⟩ := x
        obtain ⟨y1, y2⟩ := y
        dsimp only at *
        generalize Mom.cmp (x1, x2) (y1, y2) = z at *
        have xa := HE.out.cell (by simpa using xa : w5.cell? ⟨bA, oA, none⟩ = some (.int .i64 x1))
        have xb := HE.out.cell (by simpa using xb : w5.cell? ⟨bA, oA + 1, none⟩ = some (.int .i64 x2))
        have ya := HE.out.cell (by simpa using ya : w5.cell? ⟨bB, oB, none⟩ = some (.int .i64 y1))
        have yb := HE.out.cell (by simpa using yb : w5.cell? ⟨bB, oB + 1, none⟩ = some (.int .i64 y2))
        by_cases hz : z ≤ 0
        · have HMN := Lib.hid (HLE.out hz)
          clear HLE HGT
          go_wp2
          refine wp_region_ext (by kernel_rfl) (by rfl) (by rfl) (by kernel_rfl) ?_
          refine ma ?_
          refine ml2 xa xb ?_
          refine ma ?_
          refine ml2 ya yb ?_
          refine mc2 (.int .i64 z) (fun w' _ => HCM.out w') ?_
          refine ma ?_
          refine wpM_done ?_
          intro w6 hx6
          iterate 18 (rintro _ rfl)
          dsimp only [FinV]
          go_simp
          have xa := hx6.cell xa
          have xb := hx6.cell xb
          have HO6 := Lib.hid (HO.out.ext hx6)
          have HE6 := Lib.hid (HE.out.trans hx6)
          have hxl : Ext w6 (w6.alloc (.cells #[.int .i64 x1, .int .i64 x2] 66)) := (Ext.refl _).alloc _
          have HLT := Lib.hid (RP.lit w6 #[.int .i64 x1, .int .i64 x2] 66 1 [(x1, x2)] rfl (by omega) rfl)
          have HOL := Lib.hid (HO6.out.ext hxl)
          have HXL := Lib.hid (HE6.out.trans hxl)
          obtain ⟨A8, hlo8, rlo8⟩ := RP.lo1 elemM HRA2.out (by omega)
          have HL8 := Lib.hid rlo8
          have HDR := Lib.hid (show DA.drop 1 = SA.drop (i + 1) by rw [HDA.out, List.drop_drop])
          clear hxl rlo8 hx6
          go_wp2_with (at_builtin; refine wpList_app rfl elemM _ _ _ rfl w5.heap.size _ out.length _ rfl HOL.out.own _ 1 _ rfl HLT.out.rd (one_pV _) (by have := HOUT.out; omega) (by have := HOUT.out; unfold maxLen; omega) HXL.out.size ?_; intro v7 w7 ha)
          refine ⟨⟨i + 1, j, out ++ [(x1, x2)], by omega, by omega, by rw [← HDR.out]; exact HL8.out, by rw [← HDB.out]; exact HRB2.out, OP.app ha.own, HMN.out, ha.ext HXL.out rfl HOL.out.own⟩, by simp [slLen]; omega⟩
        · have HMN := Lib.hid (HGT.out hz)
          clear HLE HGT
          go_wp2
          refine wp_region_ext (by kernel_rfl) (by rfl) (by rfl) (by kernel_rfl) ?_
          refine ma ?_
          refine ml2 xa xb ?_
          refine ma ?_
          refine ml2 ya yb ?_
          refine mc2 (.int .i64 z) (fun w' _ => HCM.out w') ?_
          refine ma ?_
          refine wpM_done ?_
          intro w6 hx6
          iterate 18 (rintro _ rfl)
          dsimp only [FinV]
          go_simp
          have ya := hx6.cell ya
          have yb := hx6.cell yb
          have HO6 := Lib.hid (HO.out.ext hx6)
          have HE6 := Lib.hid (HE.out.trans hx6)
          have hxl : Ext w6 (w6.alloc (.cells #[.int .i64 y1, .int .i64 y2] 66)) := (Ext.refl _).alloc _
          have HLT := Lib.hid (RP.lit w6 #[.int .i64 y1, .int .i64 y2] 66 1 [(y1, y2)] rfl (by omega) rfl)
          have HOL := Lib.hid (HO6.out.ext hxl)
          have HXL := Lib.hid (HE6.out.trans hxl)
          obtain ⟨A8, hlo8, rlo8⟩ := RP.lo1 elemM HRB2.out (by omega)
          have HL8 := Lib.hid rlo8
          have HDR := Lib.hid (show DB.drop 1 = SB.drop (j + 1) by rw [HDB.out, List.drop_drop])
          clear hxl rlo8 hx6
          go_wp2_with (at_builtin; refine wpList_app rfl elemM _ _ _ rfl w5.heap.size _ out.length _ rfl HOL.out.own _ 1 _ rfl HLT.out.rd (one_pV _) (by have := HOUT.out; omega) (by have := HOUT.out; unfold maxLen; omega) HXL.out.size ?_; intro v7 w7 ha)
          refine ⟨⟨i, j + 1, out ++ [(y1, y2)], by omega, by omega, by rw [← HDA.out]; exact HRA2.out, by rw [← HDR.out]; exact HL8.out, OP.app ha.own, HMN.out, ha.ext HXL.out rfl HOL.out.own⟩, by simp [slLen]; omega⟩
      · have gB : ¬ 0 < (DB.length : Int) := by omega
        have gB2 : ((DB.length : Int) == 0) = true := by rw [beq_iff_eq]; omega
        obtain ⟨bA, oA, rfl, xa, xb⟩ := hra.at_ (k := 0) hA
        have hdA : SA[i]'(by omega) = DA[0] := by simp [HDA.out]
        have HMN := Lib.hid (HMER.out.left HAS.out HBS.out (by omega) (fun hj2 => absurd hj2 (by omega)))
        rw [hdA] at HMN
        clear hdA hra hrb
        generalize DA[0] = x at *
        obtain ⟨x1, x2⟩ := x
        dsimp only at *
        have xa := HE.out.cell (by simpa using xa : w5.cell? ⟨bA, oA, none⟩ = some (.int .i64 x1))
        have xb := HE.out.cell (by simpa using xb : w5.cell? ⟨bA, oA + 1, none⟩ = some (.int .i64 x2))
        go_wp2
        refine wp_region_ext (by kernel_rfl) (by rfl) (by rfl) (by kernel_rfl) ?_
        refine ma ?_
        refine wpM_done ?_
        intro w6 hx6
        iterate 18 (rintro _ rfl)
        dsimp only [FinV]
        go_simp
        have xa := hx6.cell xa
        have xb := hx6.cell xb
        have HO6 := Lib.hid (HO.out.ext hx6)
        have HE6 := Lib.hid (HE.out.trans hx6)
        have hxl : Ext w6 (w6.alloc (.cells #[.int .i64 x1, .int .i64 x2] 66)) := (Ext.refl _).alloc _
        have HLT := Lib.hid (RP.lit w6 #[.int .i64 x1, .int .i64 x2] 66 1 [(x1, x2)] rfl (by omega) rfl)
        have HOL := Lib.hid (HO6.out.ext hxl)
        have HXL := Lib.hid (HE6.out.trans hxl)
        obtain ⟨A8, hlo8, rlo8⟩ := RP.lo1 elemM HRA2.out (by omega)
        have HL8 := Lib.hid rlo8
        have HDR := Lib.hid (show DA.drop 1 = SA.drop (i + 1) by rw [HDA.out, List.drop_drop])
        clear hxl rlo8 hx6
        go_wp2_with (at_builtin; refine wpList_app rfl elemM _ _ _ rfl w5.heap.size _ out.length _ rfl HOL.out.own _ 1 _ rfl HLT.out.rd (one_pV _) (by have := HOUT.out; omega) (by have := HOUT.out; unfold maxLen; omega) HXL.out.size ?_; intro v7 w7 ha)
        refine ⟨⟨i + 1, j, out ++ [(x1, x2)], by omega, by omega, by rw [← HDR.out]; exact HL8.out, by rw [← HDB.out]; exact HRB2.out, OP.app ha.own, HMN.out, ha.ext HXL.out rfl HOL.out.own⟩, by simp [slLen]; omega⟩
    · have gA : ¬ 0 < (DA.length : Int) := by omega
      by_cases hB : 0 < DB.length
      · have gB : 0 < (DB.length : Int) := by omega
        have gB2 : ((DB.length : Int) == 0) = false := by rw [beq_eq_false_iff_ne]; omega
        obtain ⟨bB, oB, rfl, ya, yb⟩ := hrb.at_ (k := 0) hB
        have hdB : SB[j]'(by omega) = DB[0] := by simp [HDB.out]
        have HMN := Lib.hid (HMER.out.right HAS.out HBS.out (by omega) (fun hi2 => absurd hi2 (by omega)))
        rw [hdB] at HMN
        clear hdB hra hrb
        generalize DB[0] = y at *
        obtain ⟨y1, y2⟩ := y
        dsimp only at *
        have ya := HE.out.cell (by simpa using ya : w5.cell? ⟨bB, oB, none⟩ = some (.int .i64 y1))
        have yb := HE.out.cell (by simpa using yb : w5.cell? ⟨bB, oB + 1, none⟩ = some (.int .i64 y2))
        go_wp2
        refine wp_region_ext (by kernel_rfl) (by rfl) (by rfl) (by kernel_rfl) ?_
        refine ma ?_
        refine wpM_done ?_
        intro w6 hx6
        iterate 18 (rintro _ rfl)
        dsimp only [FinV]
        go_simp
        have ya := hx6.cell ya
        have yb := hx6.cell yb
        have HO6 := Lib.hid (HO.out.ext hx6)
        have HE6 := Lib.hid (HE.out.trans hx6)
        have hxl : Ext w6 (w6.alloc (.cells #[.int .i64 y1, .int .i64 y2] 66)) := (Ext.refl _).alloc _
        have HLT := Lib.hid (RP.lit w6 #[.int .i64 y1, .int .i64 y2] 66 1 [(y1, y2)] rfl (by omega) rfl)
        have HOL := Lib.hid (HO6.out.ext hxl)
        have HXL := Lib.hid (HE6.out.trans hxl)
        obtain ⟨A8, hlo8, rlo8⟩ := RP.lo1 elemM HRB2.out (by omega)
        have HL8 := Lib.hid rlo8
        have HDR := Lib.hid (show DB.drop 1 = SB.drop (j + 1) by rw [HDB.out, List.drop_drop])
        clear hxl rlo8 hx6
        go_wp2_with (at_builtin; refine wpList_app rfl elemM _ _ _ rfl w5.heap.size _ out.length _ rfl HOL.out.own _ 1 _ rfl HLT.out.rd (one_pV _) (by have := HOUT.out; omega) (by have := HOUT.out; unfold maxLen; omega) HXL.out.size ?_; intro v7 w7 ha)
        refine ⟨⟨i, j + 1, out ++ [(y1, y2)], by omega, by omega, by rw [← HDA.out]; exact HRA2.out, by rw [← HDR.out]; exact HL8.out, OP.app ha.own, HMN.out, ha.ext HXL.out rfl HOL.out.own⟩, by simp [slLen]; omega⟩
      · have gB : ¬ 0 < (DB.length : Int) := by omega
        have hi2 : i = SA.length := by omega
        have hj2 : j = SB.length := by omega
        have HF := Lib.hid (show out = Rec.srt l from by
          have h1 := HMER.out
          rw [hi2, hj2] at h1
          exact h1.done HPM.out)
        clear hra hrb hi2 hj2
        go_wp2
        go_ret
        rw [← HF.out]
        exact ⟨_, rfl, HO.out.low HX5.out.size, HX5.out.trans HE.out⟩
theorem rsort_any (l : List Rec.R) : ∀ (v : Value) (w : World), RP w v l → l.length ≤ 1000000 → Calls Tryz.prog 73 #[v] w fun e w' => ∃ v', e = .returned v' ∧ OP 66 w.heap.size w' v' (Rec.srt l) ∧ Ext w w' := by
  have key : ∀ (n : Nat) (l : List Rec.R), l.length ≤ n → ∀ (v : Value) (w : World), RP w v l → l.length ≤ 1000000 → Calls Tryz.prog 73 #[v] w fun e w' => ∃ v', e = .returned v' ∧ OP 66 w.heap.size w' v' (Rec.srt l) ∧ Ext w w' := by
    intro n
    induction n with
    | zero => intro l hn v w hv _; exact rsort_short v l w hv (by omega)
    | succ n ih =>
      intro l hn v w hv hl
      by_cases h2 : l.length < 2
      · exact rsort_short v l w hv h2
      · exact rsort_step v l w hv (by omega) hl fun v r w hr hlt => ih r (by omega) v w hr (by omega)
  exact key l.length l (Nat.le_refl _)
end Go.Proofs.YtpmgmiiidfconaaGreatDoor
