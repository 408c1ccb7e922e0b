/-
  Entries in order: slices.SortFunc at entries; the document's Sort. (Printed by gen_ent.py.)
-/
import Derived.Test.YtbokblklldphgaaEntCmp
import Derived.Test.YtbokblklldphgaaEff2
import Derived.Test.YtbokblklldphgaaShelf
namespace Go.Ox
open Go.RowKit
theorem RE.lo1 {α : Type} [C : Enc α] {t e : TypeId} {z : Value} {bytes c : Nat} {P : Program} {A : Option Addr} {l : List α} (el : Elem P t e z C.k bytes) {w : World} (h : RE w (.slice A l.length c) l) (hk : 1 ≤ l.length) :
    ∃ A', (∀ w', (Instr.slice t (.slice A l.length c) (some (.int .i64 1)) none none).run P w' = .ok (.slice A' (l.length - 1) (c - 1)) w') ∧ RE w (.slice A' (l.length - 1) (c - 1)) (l.drop 1) := by
  obtain ⟨A', h1, h2⟩ := RE.lo (k := 1) el h hk
  exact ⟨A', h1, h2⟩
end Go.Ox
namespace Go.Proofs.Ytbokblklldphgaa
open Go.RowKit Go.Ox Go.Shelf
set_option linter.unusedVariables false
set_option linter.unusedSimpArgs false

theorem ltE (x y : Ent.E) : Go.Proofs.ltOf Ent.cmp x y = true ↔ Ent.lt x y := by
  unfold Go.Proofs.ltOf
  simp only [decide_eq_true_eq]
  exact Ent.cmp_lt
theorem ltE_f (x y : Ent.E) : Go.Proofs.ltOf Ent.cmp x y = false ↔ ¬ Ent.lt x y := by
  rw [← ltE, Bool.not_eq_true]
theorem swoE : Go.Sort.SWO (Go.Proofs.ltOf Ent.cmp) where
  irrefl x := by rw [ltE_f]; exact Ent.lt_irrefl x
  trans x y z h1 h2 := by rw [ltE] at *; exact Ent.lt_trans h1 h2
  ntrans x y z h1 h2 := by
    rw [ltE_f] at *
    intro h3
    rcases Ent.lt_conn x y with h | h | h
    · exact h1 h
    · subst h; exact h2 h3
    · rcases Ent.lt_conn y z with k | k | k
      · exact h2 k
      · subst k; exact h1 h3
      · exact Ent.lt_irrefl _ (Ent.lt_trans h3 (Ent.lt_trans k h))
theorem cmpLaysE (blk off size : Nat) (w : World) : Go.Proofs.CmpLays Try.prog 31 #[] encEnt.enc 4 Ent.cmp blk off size w :=
  fun _ _ _ _ x y => compareE_grown x y _
theorem sortE_any (v : Value) (l : List Ent.E) (base : Nat) (w : World) (ho : OE 33 base w v l) (hl : l.length ≤ 1000000000) :
    Calls Try.prog 30 #[v, .func (.func 31) #[] #[]] w fun e w' =>
      e = .returned (.tuple #[]) ∧ ∃ s : List Ent.E, s.Perm l ∧ s.Pairwise (fun a b => ¬ Ent.lt b a) ∧ OE 33 base w' v s ∧ w.grownBy w' v.ownBlock := by
  rcases ho.own.2 with ⟨rfl, h0⟩ | ⟨g, cap, cur, rfl, hb, _⟩
  · obtain rfl := List.eq_nil_of_length_eq_zero h0
    refine (AnyF.slices_SortFunc_none Try.sortE none 0 _ w).mono ?_
    rintro e w' ⟨h1, rfl⟩
    exact ⟨h1, [], List.Perm.refl _, List.Pairwise.nil, OE.nilS _ _ _, World.grownBy.refl _ _⟩
  · have eg : ∀ args w, (callFunc 31 args).run Try.prog w = .ok (.enter 31 args) w := enters_of Try.func31 (by kernel_rfl) rfl
    have hown : w.ownsRow base 33 4 (.slice (some ⟨g, 0, none⟩) l.length cap) l.length (l.flatMap encEnt.enc) := ho.own
    have hH := holdsK_of_own (enc := encEnt.enc) encEnt.len encEnt.pos hown
    have hcon := AnyQ.slices_SortFunc Try.sortE 4 Try.isAgg33 Try.sizeOf33 encEnt.enc encEnt.len encEnt.one Ent.cmp swoE 31 #[] g 0 cap l.toArray w eg
      (cmpLaysE g 0 _ w) hH (hown.lt g rfl).2 (by simp; omega)
    refine hcon.mono ?_
    rintro e w' ⟨h1, d', n, os, hp, hs, hw⟩
    have hsz : d'.size = l.length := by have := hp.1; simpa using this
    obtain ⟨q1, q2⟩ := own_sorted (enc := encEnt.enc) encEnt.len encEnt.pos hown hsz hw
    refine ⟨h1, d'.toList, by simpa using perm_of hp, (sorted_of hs (by simpa using hsz)).imp (fun {a b} h => (ltE_f _ _).1 h), ?_, q2⟩
    unfold OE
    rw [show d'.toList.length = l.length by simpa using hsz]
    exact q1
theorem own_litE (w : World) (E : Nat) : OE (α := Ent.E) E w.heap.size (w.alloc (.cells #[] E)) (.slice (some ⟨w.heap.size, 0, none⟩) 0 0) [] := by
  unfold OE
  exact World.ownsRow_lit w _ 0 (Nat.le_refl _) (by unfold maxLen; omega) rfl
set_option maxRecDepth 100000 in
set_option maxHeartbeats 2000000 in
theorem rsortE_short (v : Value) (l : List Ent.E) (w : World) (hv : RE w v l) (hl : l.length < 2) :
    Calls Try.prog 20 #[v] w fun e w' => ∃ v', e = .returned v' ∧ OE 33 w.heap.size w' v' (Ent.srt l) ∧ Ext w w' := by
  obtain ⟨A, c, rfl⟩ := hv.form
  have g : (l.length : Int) < 2 := by omega
  have hx : Ext w (w.alloc (.cells #[] 33)) := (Ext.refl _).alloc _
  have HV := Lib.hid (hv.ext hx)
  have HO := Lib.hid (own_litE w 33)
  have HX := Lib.hid hx
  have HS := Lib.hid (Ent.srt_short hl)
  have HL := Lib.hid hl
  clear hv hl hx
  go_enter Try.func20, Try.ntmps20
  go_wp2_with (at_builtin; refine wpList_app rfl elemE _ _ _ rfl w.heap.size _ 0 [] rfl HO.out.own _ l.length (eV l) rfl HV.out.rd (one_eV _) (by have := HL.out; omega) (by have := HL.out; unfold maxLen; omega) HX.out.size ?_; intro v6 w6 ha)
  go_ret
  rw [HS.out]
  exact ⟨_, rfl, OE.of0 ha.own, ha.ext HX.out rfl HO.out.own⟩

set_option maxRecDepth 100000 in
set_option maxHeartbeats 8000000 in
theorem rsortE_step (v : Value) (l : List Ent.E) (w : World) (hv : RE w v l) (hl : 2 ≤ l.length) (hl2 : l.length ≤ 1000000)
    (ih : ∀ (v : Value) (r : List Ent.E) (w : World), RE w v r → r.length < l.length → Calls Try.prog 20 #[v] w fun e w' => ∃ v', e = .returned v' ∧ OE 33 w.heap.size w' v' (Ent.srt r) ∧ Ext w w') :
    Calls Try.prog 20 #[v] w fun e w' => ∃ v', e = .returned v' ∧ OE 33 w.heap.size w' v' (Ent.srt l) ∧ Ext w w' := by
  obtain ⟨A, c, rfl⟩ := hv.form
  obtain ⟨h, hh⟩ : ∃ h, h = l.length / 2 := ⟨_, rfl⟩
  have g : ¬ (l.length : Int) < 2 := by omega
  have e2 : (l.length : Int).tdiv 2 = (h : Int) := by rw [Int.tdiv_eq_ediv_of_nonneg (by omega)]; omega
  have e2b : (l.length : Int) / 2 = (h : Int) := by omega
  have e4 : IntKind.i64.wrap (h : Int) = (h : Int) := IntWalk.i64_in _ (by omega)
  have e2c : IntKind.i64.wrap ((l.length : Int).tdiv 2) = (h : Int) := by rw [e2]; exact e4
  have e2d : IntKind.i64.wrap ((l.length : Int) / 2) = (h : Int) := by rw [e2b]; exact e4
  obtain ⟨hhi, rhi⟩ := RE.hi (k := h) elemE hv (by omega)
  obtain ⟨A9, hlo, rlo⟩ := RE.lo (k := h) elemE hv (by omega)
  have HHI := Lib.hid rhi
  have HLO := Lib.hid rlo
  have HI1 := Lib.hid (fun w1 (he : Ext w w1) => ih _ (l.take h) w1 (rhi.ext he) (by rw [List.length_take]; omega))
  have HI2 := Lib.hid (fun w1 (he : Ext w w1) => ih _ (l.drop h) w1 (rlo.ext he) (by rw [List.length_drop]; omega))
  have HPM := Lib.hid (show (Ent.srt (l.take h) ++ Ent.srt (l.drop h)).Perm l by
    have := ((Ent.srt_perm (l.take h)).append (Ent.srt_perm (l.drop h)))
    rwa [List.take_append_drop] at this)
  have hs1 := Ent.srt_len (l.take h)
  have hs2 := Ent.srt_len (l.drop h)
  rw [List.length_take] at hs1
  rw [List.length_drop] at hs2
  have HAS := Lib.hid (Ent.srt_asc (l.take h))
  have HBS := Lib.hid (Ent.srt_asc (l.drop h))
  clear ih hv rhi rlo
  generalize Ent.srt (l.take h) = SA at *
  generalize Ent.srt (l.drop h) = SB at *
  have hSA : SA.length ≤ 1000000 := by omega
  have hSB : SB.length ≤ 1000000 := by omega
  clear hs1 hs2 hh
  go_enter Try.func20, Try.ntmps20
  go_wp2
  refine wp_regionY [] [] Ext Ext (fun _ => True) (by kernel_rfl) (by rfl) (by rfl) (by kernel_rfl) (by kernel_rfl) (by kernel_rfl) (fun _ _ _ x y => x.trans y) Ext.refl (fun _ _ x => x) (Ext.refl _).drew (fun _ _ x _ => x) trivial ?_
  repeat (first | (refine wpY_move0 rfl rfl (by first | exact runs0 | exact runs1 rfl) Ext.refl rfl rfl rfl ?_; apply Exists.intro; refine ⟨?_, ?_⟩; · (go_simp; rfl)) | (refine wpY_move rfl rfl (by first | exact runs0 | exact runs1 rfl) Ext.refl rfl rfl rfl (fun _ _ _ h _ => h) ?_) | (refine wpY_val rfl rfl (by first | exact runs0 | exact runs1 rfl) Ext.refl rfl ?_; apply Exists.intro; refine ⟨?_, ?_⟩; · (intro a w' hR; intro h1; (first | (have e1 : _ = _ := h1) | skip); intro h2; (first | (have e2 : _ = _ := h2) | skip); go_simp; rfl)) | (refine wpY_val rfl rfl (by first | exact runs0 | exact runs1 rfl) Ext.refl rfl ?_; apply Exists.intro; refine ⟨?_, ?_⟩; · (intro a w' hR; intro h1; (first | (have e1 : _ = _ := h1) | skip); go_simp; rfl)) | (refine wpY_val rfl rfl (by first | exact runs0 | exact runs1 rfl) Ext.refl rfl ?_; apply Exists.intro; refine ⟨?_, ?_⟩; · (intro a w' hR; go_simp; rfl)) | (refine wpY_val rfl rfl (by first | exact runs0 | exact runs1 rfl) Ext.refl rfl ?_; apply Exists.intro; refine ⟨?_, ?_⟩; · (intro a w' hR; intro h1; (first | (have e1 : _ = _ := h1) | skip); intro h2; (first | (have e2 : _ = _ := h2) | skip); intro h3; (first | (have e3 : _ = _ := h3) | skip); go_simp; rfl)) | (refine wpY_skip rfl rfl (by first | exact .inl rfl | exact .inr rfl) ?_))
  refine wpY_call (fun v w => RE w v SA) rfl rfl (by first | exact runs0 | exact runs1 rfl) rfl (by first | exact mono_eq | exact (fun _ _ _ h k => Rd.ext h k) | exact (fun _ _ _ h k => RB.ext h k) | exact (fun _ _ _ h k => OB.ext h k) | exact (fun _ _ _ h k => RB.extS h k) | exact (fun _ _ _ h k => Rd.ext h (GrownW.ext k)) | exact (fun _ _ _ h k => RP.ext h k) | exact (fun _ _ _ h k => OP.ext h k) | exact (fun _ _ _ h k => Rd.extV h k) | exact (fun _ _ _ h k => RB.extV h k) | exact (fun _ _ _ h k => E0.ext h k) | exact (fun _ _ _ h k => O0.ext h k) | exact (fun _ _ _ h k => RE.ext h k) | exact (fun _ _ _ h k => RE.extD h k) | exact (fun _ _ _ h _ => h) | exact (fun _ _ _ ⟨n, h1, h2⟩ k => ⟨n, h1, k.st _ _ h2⟩)) ?_ ?_
  · intro a w' hR h1 K hK
    have e1 : _ = _ := h1
    go_simp
    refine (HI1.out w' hR).mono ?_
    rintro e w2 ⟨v9, rfl, ho, he⟩
    exact hK _ _ he ho.re
  repeat (first | (refine wpY_move0 rfl rfl (by first | exact runs0 | exact runs1 rfl) Ext.refl rfl rfl rfl ?_; apply Exists.intro; refine ⟨?_, ?_⟩; · (go_simp; rfl)) | (refine wpY_move rfl rfl (by first | exact runs0 | exact runs1 rfl) Ext.refl rfl rfl rfl (fun _ _ _ h _ => h) ?_) | (refine wpY_val rfl rfl (by first | exact runs0 | exact runs1 rfl) Ext.refl rfl ?_; apply Exists.intro; refine ⟨?_, ?_⟩; · (intro a w' hR; intro h1; (first | (have e1 : _ = _ := h1) | skip); intro h2; (first | (have e2 : _ = _ := h2) | skip); go_simp; rfl)) | (refine wpY_val rfl rfl (by first | exact runs0 | exact runs1 rfl) Ext.refl rfl ?_; apply Exists.intro; refine ⟨?_, ?_⟩; · (intro a w' hR; intro h1; (first | (have e1 : _ = _ := h1) | skip); go_simp; rfl)) | (refine wpY_val rfl rfl (by first | exact runs0 | exact runs1 rfl) Ext.refl rfl ?_; apply Exists.intro; refine ⟨?_, ?_⟩; · (intro a w' hR; go_simp; rfl)) | (refine wpY_val rfl rfl (by first | exact runs0 | exact runs1 rfl) Ext.refl rfl ?_; apply Exists.intro; refine ⟨?_, ?_⟩; · (intro a w' hR; intro h1; (first | (have e1 : _ = _ := h1) | skip); intro h2; (first | (have e2 : _ = _ := h2) | skip); intro h3; (first | (have e3 : _ = _ := h3) | skip); go_simp; rfl)) | (refine wpY_skip rfl rfl (by first | exact .inl rfl | exact .inr rfl) ?_))
  refine wpY_call (fun v w => RE w v SB) rfl rfl (by first | exact runs0 | exact runs1 rfl) rfl (by first | exact mono_eq | exact (fun _ _ _ h k => Rd.ext h k) | exact (fun _ _ _ h k => RB.ext h k) | exact (fun _ _ _ h k => OB.ext h k) | exact (fun _ _ _ h k => RB.extS h k) | exact (fun _ _ _ h k => Rd.ext h (GrownW.ext k)) | exact (fun _ _ _ h k => RP.ext h k) | exact (fun _ _ _ h k => OP.ext h k) | exact (fun _ _ _ h k => Rd.extV h k) | exact (fun _ _ _ h k => RB.extV h k) | exact (fun _ _ _ h k => E0.ext h k) | exact (fun _ _ _ h k => O0.ext h k) | exact (fun _ _ _ h k => RE.ext h k) | exact (fun _ _ _ h k => RE.extD h k) | exact (fun _ _ _ h _ => h) | exact (fun _ _ _ ⟨n, h1, h2⟩ k => ⟨n, h1, k.st _ _ h2⟩)) ?_ ?_
  · intro a w' hR h1 K hK
    have e1 : _ = _ := h1
    go_simp
    refine (HI2.out w' hR).mono ?_
    rintro e w2 ⟨v9, rfl, ho, he⟩
    exact hK _ _ he ho.re
  (refine wpY_assign rfl rfl rfl rfl rfl (by first | exact runs0 | exact runs1 rfl) Ext.refl (by first | exact mono_eq | exact (fun _ _ _ h k => Rd.ext h k) | exact (fun _ _ _ h k => RB.ext h k) | exact (fun _ _ _ h k => OB.ext h k) | exact (fun _ _ _ h k => RB.extS h k) | exact (fun _ _ _ h k => Rd.ext h (GrownW.ext k)) | exact (fun _ _ _ h k => RP.ext h k) | exact (fun _ _ _ h k => OP.ext h k) | exact (fun _ _ _ h k => Rd.extV h k) | exact (fun _ _ _ h k => RB.extV h k) | exact (fun _ _ _ h k => E0.ext h k) | exact (fun _ _ _ h k => O0.ext h k) | exact (fun _ _ _ h k => RE.ext h k) | exact (fun _ _ _ h k => RE.extD h k) | exact (fun _ _ _ h _ => h) | exact (fun _ _ _ ⟨n, h1, h2⟩ k => ⟨n, h1, k.st _ _ h2⟩)) ?_)
  (refine wpY_assign rfl rfl rfl rfl rfl (by first | exact runs0 | exact runs1 rfl) Ext.refl (by first | exact mono_eq | exact (fun _ _ _ h k => Rd.ext h k) | exact (fun _ _ _ h k => RB.ext h k) | exact (fun _ _ _ h k => OB.ext h k) | exact (fun _ _ _ h k => RB.extS h k) | exact (fun _ _ _ h k => Rd.ext h (GrownW.ext k)) | exact (fun _ _ _ h k => RP.ext h k) | exact (fun _ _ _ h k => OP.ext h k) | exact (fun _ _ _ h k => Rd.extV h k) | exact (fun _ _ _ h k => RB.extV h k) | exact (fun _ _ _ h k => E0.ext h k) | exact (fun _ _ _ h k => O0.ext h k) | exact (fun _ _ _ h k => RE.ext h k) | exact (fun _ _ _ h k => RE.extD h k) | exact (fun _ _ _ h _ => h) | exact (fun _ _ _ ⟨n, h1, h2⟩ k => ⟨n, h1, k.st _ _ h2⟩)) ?_)
  refine wpY_done ?_
  intro w5 hx5 hS5
  iterate 5 (rintro _ rfl)
  rintro v17 h17
  iterate 5 (rintro _ rfl)
  rintro v23 h23
  rintro v3 h3
  rintro v4 h4
  dsimp only [FinV]
  go_simp
  have hx5 : Ext w w5 := hx5
  have HX5 := Lib.hid hx5
  have HRA := Lib.hid h3
  have HRB := Lib.hid h4
  obtain ⟨AA0, cA0, rfl⟩ := h3.form
  obtain ⟨AB0, cB0, rfl⟩ := h4.form
  clear hx5 hS5 h17 h23 h3 h4 hhi hlo HHI HLO HI1 HI2 e2 e2b e4 e2c e2d g
  go_wp2
  go_loopw [3, 4, 5] (fun a b o wr => ∃ (i j : Nat) (out : List Ent.E), i ≤ SA.length ∧ j ≤ SB.length ∧ RE w5 a (SA.drop i) ∧ RE w5 b (SB.drop j) ∧ OE 33 w5.heap.size wr o out ∧ Ent.Mer SA SB i j out ∧ Ext w5 wr) (fun a b _ _ => slLen a + slLen b)
  case atStart => exact ⟨0, 0, [], Nat.zero_le _, Nat.zero_le _, HRA.out, HRB.out, OE.nilS _ _ _, Ent.Mer.start _ _, Ext.refl _⟩
  case round =>
    obtain ⟨i, j, out, hi, hj, hra, hrb, ho, hmer, hext⟩ := hrel
    rename World => wA
    obtain ⟨DA, hDA⟩ : ∃ D, D = SA.drop i := ⟨_, rfl⟩
    obtain ⟨DB, hDB⟩ : ∃ D, D = SB.drop j := ⟨_, rfl⟩
    rw [← hDA] at hra
    rw [← hDB] at hrb
    obtain ⟨hlA1, hlA2⟩ : DA.length + i ≤ SA.length ∧ SA.length ≤ DA.length + i := by rw [hDA, List.length_drop]; omega
    obtain ⟨hlB1, hlB2⟩ : DB.length + j ≤ SB.length ∧ SB.length ≤ DB.length + j := by rw [hDB, List.length_drop]; omega
    have hout : out.length ≤ i + j := by
      have := hmer.perm.length_eq
      rw [List.length_append, List.length_take, List.length_take] at this
      omega
    obtain ⟨AA, cA, rfl⟩ := hra.form
    obtain ⟨AB, cB, rfl⟩ := hrb.form
    obtain ⟨AO, cO, rfl⟩ := ho.re.form
    have HRA2 := Lib.hid hra
    have HRB2 := Lib.hid hrb
    have HO := Lib.hid ho
    have HMER := Lib.hid hmer
    have HE := Lib.hid hext
    have HDA := Lib.hid hDA
    have HDB := Lib.hid hDB
    have HOUT := Lib.hid (show out.length ≤ 2000000 by omega)
    clear ho hmer hext hDA hDB
    by_cases hA : 0 < DA.length
    · have gA : 0 < (DA.length : Int) := by omega
      by_cases hB : 0 < DB.length
      · have gB : 0 < (DB.length : Int) := by omega
        have gB2 : ((DB.length : Int) == 0) = false := by rw [beq_eq_false_iff_ne]; omega
        obtain ⟨bA, oA, rfl, xa, xb, xc, xd⟩ := re4 hra (k := 0) hA
        obtain ⟨bB, oB, rfl, ya, yb, yc, yd⟩ := re4 hrb (k := 0) hB
        have hdA : SA[i]'(by omega) = DA[0] := by simp [HDA.out]
        have hdB : SB[j]'(by omega) = DB[0] := by simp [HDB.out]
        have HLE := Lib.hid (fun (hq : Ent.cmp DA[0] DB[0] ≤ 0) => HMER.out.left HAS.out HBS.out (by omega) (fun hj2 => by
          rw [hdA, hdB, ← Ent.cmp_lt, Ent.cmp_flip]; omega))
        have HGT := Lib.hid (fun (hq : ¬ Ent.cmp DA[0] DB[0] ≤ 0) => HMER.out.right HAS.out HBS.out (by omega) (fun hi2 => by
          rw [hdA, hdB, ← Ent.cmp_lt, Ent.cmp_flip]; omega))
        rw [hdA] at HLE
        rw [hdB] at HGT
        have HCM := Lib.hid (fun w => rcompareE_any DA[0] DB[0] w)
        clear hdA hdB hra hrb
        generalize DA[0] = x at *
        generalize DB[0] = y at *
        obtain ⟨⟨x1, x2⟩, x3, x4⟩ := x
        obtain ⟨⟨y1, y2⟩, y3, y4⟩ := y
        dsimp only at *
        generalize Ent.cmp ((x1, x2), x3, x4) ((y1, y2), y3, y4) = z at *
        have xa := HE.out.cell (by simpa using xa : w5.cell? ⟨bA, oA, none⟩ = some (.int .i64 x1))
        have xb := HE.out.cell (by simpa using xb : w5.cell? ⟨bA, oA + 1, none⟩ = some (.int .i64 x2))
        have xc := HE.out.cell (by simpa using xc : w5.cell? ⟨bA, oA + 2, none⟩ = some (.int .i64 x3))
        have xd := HE.out.cell (by simpa using xd : w5.cell? ⟨bA, oA + 3, none⟩ = some (.int .i64 x4))
        have ya := HE.out.cell (by simpa using ya : w5.cell? ⟨bB, oB, none⟩ = some (.int .i64 y1))
        have yb := HE.out.cell (by simpa using yb : w5.cell? ⟨bB, oB + 1, none⟩ = some (.int .i64 y2))
        have yc := HE.out.cell (by simpa using yc : w5.cell? ⟨bB, oB + 2, none⟩ = some (.int .i64 y3))
        have yd := HE.out.cell (by simpa using yd : w5.cell? ⟨bB, oB + 3, none⟩ = some (.int .i64 y4))
        by_cases hz : z ≤ 0
        · have HMN := Lib.hid (HLE.out hz)
          clear HLE HGT
          go_wp2
          refine wp_region_ext (by kernel_rfl) (by rfl) (by rfl) (by kernel_rfl) ?_
          repeat (first | ((first | (refine wpM_move00 Ext.refl rfl rfl rfl ?_) | (refine wpM_move01 Ext.refl rfl rfl rfl rfl ?_)); apply Exists.intro; refine ⟨?_, ?_⟩; · (go_simp; rfl)) | (first | (refine wpM_movek0 Ext.refl rfl rfl rfl ?_) | (refine wpM_movek1 Ext.refl rfl rfl rfl rfl ?_)) | ((first | (refine wpM_val0 Ext.refl rfl ?_) | (refine wpM_val1 Ext.refl rfl rfl ?_)); apply Exists.intro; refine ⟨?_, ?_⟩; · (intro a w' hR; intro h1; (first | (have e1 : _ = _ := h1) | skip); intro h2; (first | (have e2 : _ = _ := h2) | skip); go_simp; rfl)) | ((first | (refine wpM_val0 Ext.refl rfl ?_) | (refine wpM_val1 Ext.refl rfl rfl ?_)); apply Exists.intro; refine ⟨?_, ?_⟩; · (intro a w' hR; intro h1; (first | (have e1 : _ = _ := h1) | skip); go_simp; rfl)) | ((first | (refine wpM_val0 Ext.refl rfl ?_) | (refine wpM_val1 Ext.refl rfl rfl ?_)); apply Exists.intro; refine ⟨?_, ?_⟩; · (intro a w' hR; go_simp; rfl)) | ((first | (refine wpM_val0 Ext.refl rfl ?_) | (refine wpM_val1 Ext.refl rfl rfl ?_)); apply Exists.intro; refine ⟨?_, ?_⟩; · (intro a w' hR; intro h1; (first | (have e1 : _ = _ := h1) | skip); intro h2; (first | (have e2 : _ = _ := h2) | skip); intro h3; (first | (have e3 : _ = _ := h3) | skip); go_simp; rfl)) | (refine wpM_skip1 rfl ?_) | (refine wpM_skipU rfl ?_))
          (first | (refine wpM_val0 Ext.refl rfl ?_) | (refine wpM_val1 Ext.refl rfl rfl ?_)); apply Exists.intro; refine ⟨?_, ?_⟩
          · intro a w' hR h1
            have e1 : _ = _ := h1
            have hl0 := hR.cell xa
            have hl1 := hR.cell xb
            have hl2 := hR.cell xc
            have hl3 := hR.cell xd
            go_simp
            rfl
          repeat (first | ((first | (refine wpM_move00 Ext.refl rfl rfl rfl ?_) | (refine wpM_move01 Ext.refl rfl rfl rfl rfl ?_)); apply Exists.intro; refine ⟨?_, ?_⟩; · (go_simp; rfl)) | (first | (refine wpM_movek0 Ext.refl rfl rfl rfl ?_) | (refine wpM_movek1 Ext.refl rfl rfl rfl rfl ?_)) | ((first | (refine wpM_val0 Ext.refl rfl ?_) | (refine wpM_val1 Ext.refl rfl rfl ?_)); apply Exists.intro; refine ⟨?_, ?_⟩; · (intro a w' hR; intro h1; (first | (have e1 : _ = _ := h1) | skip); intro h2; (first | (have e2 : _ = _ := h2) | skip); go_simp; rfl)) | ((first | (refine wpM_val0 Ext.refl rfl ?_) | (refine wpM_val1 Ext.refl rfl rfl ?_)); apply Exists.intro; refine ⟨?_, ?_⟩; · (intro a w' hR; intro h1; (first | (have e1 : _ = _ := h1) | skip); go_simp; rfl)) | ((first | (refine wpM_val0 Ext.refl rfl ?_) | (refine wpM_val1 Ext.refl rfl rfl ?_)); apply Exists.intro; refine ⟨?_, ?_⟩; · (intro a w' hR; go_simp; rfl)) | ((first | (refine wpM_val0 Ext.refl rfl ?_) | (refine wpM_val1 Ext.refl rfl rfl ?_)); apply Exists.intro; refine ⟨?_, ?_⟩; · (intro a w' hR; intro h1; (first | (have e1 : _ = _ := h1) | skip); intro h2; (first | (have e2 : _ = _ := h2) | skip); intro h3; (first | (have e3 : _ = _ := h3) | skip); go_simp; rfl)) | (refine wpM_skip1 rfl ?_) | (refine wpM_skipU rfl ?_))
          (first | (refine wpM_val0 Ext.refl rfl ?_) | (refine wpM_val1 Ext.refl rfl rfl ?_)); apply Exists.intro; refine ⟨?_, ?_⟩
          · intro a w' hR h1
            have e1 : _ = _ := h1
            have hl0 := hR.cell ya
            have hl1 := hR.cell yb
            have hl2 := hR.cell yc
            have hl3 := hR.cell yd
            go_simp
            rfl
          first | (refine wpM_call0 (fun v _ => v = .int .i64 z) rfl (by first | exact mono_eq | exact (fun _ _ _ ⟨n, h1, h2, h3⟩ k => ⟨n, h1, h2, h3.ext k⟩) | exact (fun _ _ _ h k => RB.ext h k) | exact (fun _ _ _ h k => OB.ext h k) | exact (fun _ _ _ h k => Rd.ext h k) | exact (fun _ _ _ h k => ownsRow_ext h k) | exact (fun _ _ _ h k => RB.extC h k) | exact (fun _ _ _ h k => FB.extC h k) | exact (fun _ _ _ h k => Rd.extC h k) | exact (fun _ _ _ h k => RP.ext h k) | exact (fun _ _ _ h k => RE.ext h k)) ?_ ?_) | (refine wpM_call1 (fun v _ => v = .int .i64 z) rfl rfl (by first | exact mono_eq | exact (fun _ _ _ ⟨n, h1, h2, h3⟩ k => ⟨n, h1, h2, h3.ext k⟩) | exact (fun _ _ _ h k => RB.ext h k) | exact (fun _ _ _ h k => OB.ext h k) | exact (fun _ _ _ h k => Rd.ext h k) | exact (fun _ _ _ h k => ownsRow_ext h k) | exact (fun _ _ _ h k => RB.extC h k) | exact (fun _ _ _ h k => FB.extC h k) | exact (fun _ _ _ h k => Rd.extC h k) | exact (fun _ _ _ h k => RP.ext h k) | exact (fun _ _ _ h k => RE.ext h k)) ?_ ?_)
          · intro a w' hR h1 h2 K hK
            have e1 : _ = _ := h1
            have e2 : _ = _ := h2
            go_simp
            refine (HCM.out w').mono ?_
            rintro e w2 ⟨rfl, he⟩
            exact hK _ _ he rfl
          repeat (first | ((first | (refine wpM_move00 Ext.refl rfl rfl rfl ?_) | (refine wpM_move01 Ext.refl rfl rfl rfl rfl ?_)); apply Exists.intro; refine ⟨?_, ?_⟩; · (go_simp; rfl)) | (first | (refine wpM_movek0 Ext.refl rfl rfl rfl ?_) | (refine wpM_movek1 Ext.refl rfl rfl rfl rfl ?_)) | ((first | (refine wpM_val0 Ext.refl rfl ?_) | (refine wpM_val1 Ext.refl rfl rfl ?_)); apply Exists.intro; refine ⟨?_, ?_⟩; · (intro a w' hR; intro h1; (first | (have e1 : _ = _ := h1) | skip); intro h2; (first | (have e2 : _ = _ := h2) | skip); go_simp; rfl)) | ((first | (refine wpM_val0 Ext.refl rfl ?_) | (refine wpM_val1 Ext.refl rfl rfl ?_)); apply Exists.intro; refine ⟨?_, ?_⟩; · (intro a w' hR; intro h1; (first | (have e1 : _ = _ := h1) | skip); go_simp; rfl)) | ((first | (refine wpM_val0 Ext.refl rfl ?_) | (refine wpM_val1 Ext.refl rfl rfl ?_)); apply Exists.intro; refine ⟨?_, ?_⟩; · (intro a w' hR; go_simp; rfl)) | ((first | (refine wpM_val0 Ext.refl rfl ?_) | (refine wpM_val1 Ext.refl rfl rfl ?_)); apply Exists.intro; refine ⟨?_, ?_⟩; · (intro a w' hR; intro h1; (first | (have e1 : _ = _ := h1) | skip); intro h2; (first | (have e2 : _ = _ := h2) | skip); intro h3; (first | (have e3 : _ = _ := h3) | skip); go_simp; rfl)) | (refine wpM_skip1 rfl ?_) | (refine wpM_skipU rfl ?_))
          refine wpM_done ?_
          intro w6 hx6
          iterate 18 (rintro _ rfl)
          dsimp only [FinV]
          go_simp
          have xa := hx6.cell xa
          have xb := hx6.cell xb
          have xc := hx6.cell xc
          have xd := hx6.cell xd
          have HO6 := Lib.hid (HO.out.ext hx6)
          have HE6 := Lib.hid (HE.out.trans hx6)
          have hxl : Ext w6 (w6.alloc (.cells #[.int .i64 x1, .int .i64 x2, .int .i64 x3, .int .i64 x4] 33)) := (Ext.refl _).alloc _
          have HLT := Lib.hid (RE.lit w6 #[.int .i64 x1, .int .i64 x2, .int .i64 x3, .int .i64 x4] 33 1 [(((x1, x2), x3, x4) : Ent.E)] rfl (by omega) rfl)
          have HOL := Lib.hid (HO6.out.ext hxl)
          have HXL := Lib.hid (HE6.out.trans hxl)
          obtain ⟨A8, hlo8, rlo8⟩ := RE.lo1 elemE HRA2.out (by omega)
          have HL8 := Lib.hid rlo8
          have HDR := Lib.hid (show DA.drop 1 = SA.drop (i + 1) by rw [HDA.out, List.drop_drop])
          clear hxl rlo8 hx6
          go_wp2_with (at_builtin; refine wpList_app rfl elemE _ _ _ rfl w5.heap.size _ out.length _ rfl HOL.out.own _ 1 _ rfl HLT.out.rd (one_eV _) (by have := HOUT.out; omega) (by have := HOUT.out; unfold maxLen; omega) HXL.out.size ?_; intro v7 w7 ha)
          refine ⟨⟨i + 1, j, out ++ [(((x1, x2), x3, x4) : Ent.E)], by omega, by omega, by rw [← HDR.out]; exact HL8.out, by rw [← HDB.out]; exact HRB2.out, OE.app ha.own, HMN.out, ha.ext HXL.out rfl HOL.out.own⟩, by simp [slLen]; omega⟩
        · have HMN := Lib.hid (HGT.out hz)
          clear HLE HGT
          go_wp2
          refine wp_region_ext (by kernel_rfl) (by rfl) (by rfl) (by kernel_rfl) ?_
          repeat (first | ((first | (refine wpM_move00 Ext.refl rfl rfl rfl ?_) | (refine wpM_move01 Ext.refl rfl rfl rfl rfl ?_)); apply Exists.intro; refine ⟨?_, ?_⟩; · (go_simp; rfl)) | (first | (refine wpM_movek0 Ext.refl rfl rfl rfl ?_) | (refine wpM_movek1 Ext.refl rfl rfl rfl rfl ?_)) | ((first | (refine wpM_val0 Ext.refl rfl ?_) | (refine wpM_val1 Ext.refl rfl rfl ?_)); apply Exists.intro; refine ⟨?_, ?_⟩; · (intro a w' hR; intro h1; (first | (have e1 : _ = _ := h1) | skip); intro h2; (first | (have e2 : _ = _ := h2) | skip); go_simp; rfl)) | ((first | (refine wpM_val0 Ext.refl rfl ?_) | (refine wpM_val1 Ext.refl rfl rfl ?_)); apply Exists.intro; refine ⟨?_, ?_⟩; · (intro a w' hR; intro h1; (first | (have e1 : _ = _ := h1) | skip); go_simp; rfl)) | ((first | (refine wpM_val0 Ext.refl rfl ?_) | (refine wpM_val1 Ext.refl rfl rfl ?_)); apply Exists.intro; refine ⟨?_, ?_⟩; · (intro a w' hR; go_simp; rfl)) | ((first | (refine wpM_val0 Ext.refl rfl ?_) | (refine wpM_val1 Ext.refl rfl rfl ?_)); apply Exists.intro; refine ⟨?_, ?_⟩; · (intro a w' hR; intro h1; (first | (have e1 : _ = _ := h1) | skip); intro h2; (first | (have e2 : _ = _ := h2) | skip); intro h3; (first | (have e3 : _ = _ := h3) | skip); go_simp; rfl)) | (refine wpM_skip1 rfl ?_) | (refine wpM_skipU rfl ?_))
          (first | (refine wpM_val0 Ext.refl rfl ?_) | (refine wpM_val1 Ext.refl rfl rfl ?_)); apply Exists.intro; refine ⟨?_, ?_⟩
          · intro a w' hR h1
            have e1 : _ = _ := h1
            have hl0 := hR.cell xa
            have hl1 := hR.cell xb
            have hl2 := hR.cell xc
            have hl3 := hR.cell xd
            go_simp
            rfl
          repeat (first | ((first | (refine wpM_move00 Ext.refl rfl rfl rfl ?_) | (refine wpM_move01 Ext.refl rfl rfl rfl rfl ?_)); apply Exists.intro; refine ⟨?_, ?_⟩; · (go_simp; rfl)) | (first | (refine wpM_movek0 Ext.refl rfl rfl rfl ?_) | (refine wpM_movek1 Ext.refl rfl rfl rfl rfl ?_)) | ((first | (refine wpM_val0 Ext.refl rfl ?_) | (refine wpM_val1 Ext.refl rfl rfl ?_)); apply Exists.intro; refine ⟨?_, ?_⟩; · (intro a w' hR; intro h1; (first | (have e1 : _ = _ := h1) | skip); intro h2; (first | (have e2 : _ = _ := h2) | skip); go_simp; rfl)) | ((first | (refine wpM_val0 Ext.refl rfl ?_) | (refine wpM_val1 Ext.refl rfl rfl ?_)); apply Exists.intro; refine ⟨?_, ?_⟩; · (intro a w' hR; intro h1; (first | (have e1 : _ = _ := h1) | skip); go_simp; rfl)) | ((first | (refine wpM_val0 Ext.refl rfl ?_) | (refine wpM_val1 Ext.refl rfl rfl ?_)); apply Exists.intro; refine ⟨?_, ?_⟩; · (intro a w' hR; go_simp; rfl)) | ((first | (refine wpM_val0 Ext.refl rfl ?_) | (refine wpM_val1 Ext.refl rfl rfl ?_)); apply Exists.intro; refine ⟨?_, ?_⟩; · (intro a w' hR; intro h1; (first | (have e1 : _ = _ := h1) | skip); intro h2; (first | (have e2 : _ = _ := h2) | skip); intro h3; (first | (have e3 : _ = _ := h3) | skip); go_simp; rfl)) | (refine wpM_skip1 rfl ?_) | (refine wpM_skipU rfl ?_))
          (first | (refine wpM_val0 Ext.refl rfl ?_) | (refine wpM_val1 Ext.refl rfl rfl ?_)); apply Exists.intro; refine ⟨?_, ?_⟩
          · intro a w' hR h1
            have e1 : _ = _ := h1
            have hl0 := hR.cell ya
            have hl1 := hR.cell yb
            have hl2 := hR.cell yc
            have hl3 := hR.cell yd
            go_simp
            rfl
          first | (refine wpM_call0 (fun v _ => v = .int .i64 z) rfl (by first | exact mono_eq | exact (fun _ _ _ ⟨n, h1, h2, h3⟩ k => ⟨n, h1, h2, h3.ext k⟩) | exact (fun _ _ _ h k => RB.ext h k) | exact (fun _ _ _ h k => OB.ext h k) | exact (fun _ _ _ h k => Rd.ext h k) | exact (fun _ _ _ h k => ownsRow_ext h k) | exact (fun _ _ _ h k => RB.extC h k) | exact (fun _ _ _ h k => FB.extC h k) | exact (fun _ _ _ h k => Rd.extC h k) | exact (fun _ _ _ h k => RP.ext h k) | exact (fun _ _ _ h k => RE.ext h k)) ?_ ?_) | (refine wpM_call1 (fun v _ => v = .int .i64 z) rfl rfl (by first | exact mono_eq | exact (fun _ _ _ ⟨n, h1, h2, h3⟩ k => ⟨n, h1, h2, h3.ext k⟩) | exact (fun _ _ _ h k => RB.ext h k) | exact (fun _ _ _ h k => OB.ext h k) | exact (fun _ _ _ h k => Rd.ext h k) | exact (fun _ _ _ h k => ownsRow_ext h k) | exact (fun _ _ _ h k => RB.extC h k) | exact (fun _ _ _ h k => FB.extC h k) | exact (fun _ _ _ h k => Rd.extC h k) | exact (fun _ _ _ h k => RP.ext h k) | exact (fun _ _ _ h k => RE.ext h k)) ?_ ?_)
          · intro a w' hR h1 h2 K hK
            have e1 : _ = _ := h1
            have e2 : _ = _ := h2
            go_simp
            refine (HCM.out w').mono ?_
            rintro e w2 ⟨rfl, he⟩
            exact hK _ _ he rfl
          repeat (first | ((first | (refine wpM_move00 Ext.refl rfl rfl rfl ?_) | (refine wpM_move01 Ext.refl rfl rfl rfl rfl ?_)); apply Exists.intro; refine ⟨?_, ?_⟩; · (go_simp; rfl)) | (first | (refine wpM_movek0 Ext.refl rfl rfl rfl ?_) | (refine wpM_movek1 Ext.refl rfl rfl rfl rfl ?_)) | ((first | (refine wpM_val0 Ext.refl rfl ?_) | (refine wpM_val1 Ext.refl rfl rfl ?_)); apply Exists.intro; refine ⟨?_, ?_⟩; · (intro a w' hR; intro h1; (first | (have e1 : _ = _ := h1) | skip); intro h2; (first | (have e2 : _ = _ := h2) | skip); go_simp; rfl)) | ((first | (refine wpM_val0 Ext.refl rfl ?_) | (refine wpM_val1 Ext.refl rfl rfl ?_)); apply Exists.intro; refine ⟨?_, ?_⟩; · (intro a w' hR; intro h1; (first | (have e1 : _ = _ := h1) | skip); go_simp; rfl)) | ((first | (refine wpM_val0 Ext.refl rfl ?_) | (refine wpM_val1 Ext.refl rfl rfl ?_)); apply Exists.intro; refine ⟨?_, ?_⟩; · (intro a w' hR; go_simp; rfl)) | ((first | (refine wpM_val0 Ext.refl rfl ?_) | (refine wpM_val1 Ext.refl rfl rfl ?_)); apply Exists.intro; refine ⟨?_, ?_⟩; · (intro a w' hR; intro h1; (first | (have e1 : _ = _ := h1) | skip); intro h2; (first | (have e2 : _ = _ := h2) | skip); intro h3; (first | (have e3 : _ = _ := h3) | skip); go_simp; rfl)) | (refine wpM_skip1 rfl ?_) | (refine wpM_skipU rfl ?_))
          refine wpM_done ?_
          intro w6 hx6
          iterate 18 (rintro _ rfl)
          dsimp only [FinV]
          go_simp
          have ya := hx6.cell ya
          have yb := hx6.cell yb
          have yc := hx6.cell yc
          have yd := hx6.cell yd
          have HO6 := Lib.hid (HO.out.ext hx6)
          have HE6 := Lib.hid (HE.out.trans hx6)
          have hxl : Ext w6 (w6.alloc (.cells #[.int .i64 y1, .int .i64 y2, .int .i64 y3, .int .i64 y4] 33)) := (Ext.refl _).alloc _
          have HLT := Lib.hid (RE.lit w6 #[.int .i64 y1, .int .i64 y2, .int .i64 y3, .int .i64 y4] 33 1 [(((y1, y2), y3, y4) : Ent.E)] rfl (by omega) rfl)
          have HOL := Lib.hid (HO6.out.ext hxl)
          have HXL := Lib.hid (HE6.out.trans hxl)
          obtain ⟨A8, hlo8, rlo8⟩ := RE.lo1 elemE HRB2.out (by omega)
          have HL8 := Lib.hid rlo8
          have HDR := Lib.hid (show DB.drop 1 = SB.drop (j + 1) by rw [HDB.out, List.drop_drop])
          clear hxl rlo8 hx6
          go_wp2_with (at_builtin; refine wpList_app rfl elemE _ _ _ rfl w5.heap.size _ out.length _ rfl HOL.out.own _ 1 _ rfl HLT.out.rd (one_eV _) (by have := HOUT.out; omega) (by have := HOUT.out; unfold maxLen; omega) HXL.out.size ?_; intro v7 w7 ha)
          refine ⟨⟨i, j + 1, out ++ [(((y1, y2), y3, y4) : Ent.E)], by omega, by omega, by rw [← HDA.out]; exact HRA2.out, by rw [← HDR.out]; exact HL8.out, OE.app ha.own, HMN.out, ha.ext HXL.out rfl HOL.out.own⟩, by simp [slLen]; omega⟩
      · have gB : ¬ 0 < (DB.length : Int) := by omega
        have gB2 : ((DB.length : Int) == 0) = true := by rw [beq_iff_eq]; omega
        obtain ⟨bA, oA, rfl, xa, xb, xc, xd⟩ := re4 hra (k := 0) hA
        have hdA : SA[i]'(by omega) = DA[0] := by simp [HDA.out]
        have HMN := Lib.hid (HMER.out.left HAS.out HBS.out (by omega) (fun hj2 => absurd hj2 (by omega)))
        rw [hdA] at HMN
        clear hdA hra hrb
        generalize DA[0] = x at *
        obtain ⟨⟨x1, x2⟩, x3, x4⟩ := x
        dsimp only at *
        have xa := HE.out.cell (by simpa using xa : w5.cell? ⟨bA, oA, none⟩ = some (.int .i64 x1))
        have xb := HE.out.cell (by simpa using xb : w5.cell? ⟨bA, oA + 1, none⟩ = some (.int .i64 x2))
        have xc := HE.out.cell (by simpa using xc : w5.cell? ⟨bA, oA + 2, none⟩ = some (.int .i64 x3))
        have xd := HE.out.cell (by simpa using xd : w5.cell? ⟨bA, oA + 3, none⟩ = some (.int .i64 x4))
        go_wp2
        refine wp_region_ext (by kernel_rfl) (by rfl) (by rfl) (by kernel_rfl) ?_
        repeat (first | ((first | (refine wpM_move00 Ext.refl rfl rfl rfl ?_) | (refine wpM_move01 Ext.refl rfl rfl rfl rfl ?_)); apply Exists.intro; refine ⟨?_, ?_⟩; · (go_simp; rfl)) | (first | (refine wpM_movek0 Ext.refl rfl rfl rfl ?_) | (refine wpM_movek1 Ext.refl rfl rfl rfl rfl ?_)) | ((first | (refine wpM_val0 Ext.refl rfl ?_) | (refine wpM_val1 Ext.refl rfl rfl ?_)); apply Exists.intro; refine ⟨?_, ?_⟩; · (intro a w' hR; intro h1; (first | (have e1 : _ = _ := h1) | skip); intro h2; (first | (have e2 : _ = _ := h2) | skip); go_simp; rfl)) | ((first | (refine wpM_val0 Ext.refl rfl ?_) | (refine wpM_val1 Ext.refl rfl rfl ?_)); apply Exists.intro; refine ⟨?_, ?_⟩; · (intro a w' hR; intro h1; (first | (have e1 : _ = _ := h1) | skip); go_simp; rfl)) | ((first | (refine wpM_val0 Ext.refl rfl ?_) | (refine wpM_val1 Ext.refl rfl rfl ?_)); apply Exists.intro; refine ⟨?_, ?_⟩; · (intro a w' hR; go_simp; rfl)) | ((first | (refine wpM_val0 Ext.refl rfl ?_) | (refine wpM_val1 Ext.refl rfl rfl ?_)); apply Exists.intro; refine ⟨?_, ?_⟩; · (intro a w' hR; intro h1; (first | (have e1 : _ = _ := h1) | skip); intro h2; (first | (have e2 : _ = _ := h2) | skip); intro h3; (first | (have e3 : _ = _ := h3) | skip); go_simp; rfl)) | (refine wpM_skip1 rfl ?_) | (refine wpM_skipU rfl ?_))
        refine wpM_done ?_
        intro w6 hx6
        iterate 18 (rintro _ rfl)
        dsimp only [FinV]
        go_simp
        have xa := hx6.cell xa
        have xb := hx6.cell xb
        have xc := hx6.cell xc
        have xd := hx6.cell xd
        have HO6 := Lib.hid (HO.out.ext hx6)
        have HE6 := Lib.hid (HE.out.trans hx6)
        have hxl : Ext w6 (w6.alloc (.cells #[.int .i64 x1, .int .i64 x2, .int .i64 x3, .int .i64 x4] 33)) := (Ext.refl _).alloc _
        have HLT := Lib.hid (RE.lit w6 #[.int .i64 x1, .int .i64 x2, .int .i64 x3, .int .i64 x4] 33 1 [(((x1, x2), x3, x4) : Ent.E)] rfl (by omega) rfl)
        have HOL := Lib.hid (HO6.out.ext hxl)
        have HXL := Lib.hid (HE6.out.trans hxl)
        obtain ⟨A8, hlo8, rlo8⟩ := RE.lo1 elemE HRA2.out (by omega)
        have HL8 := Lib.hid rlo8
        have HDR := Lib.hid (show DA.drop 1 = SA.drop (i + 1) by rw [HDA.out, List.drop_drop])
        clear hxl rlo8 hx6
        go_wp2_with (at_builtin; refine wpList_app rfl elemE _ _ _ rfl w5.heap.size _ out.length _ rfl HOL.out.own _ 1 _ rfl HLT.out.rd (one_eV _) (by have := HOUT.out; omega) (by have := HOUT.out; unfold maxLen; omega) HXL.out.size ?_; intro v7 w7 ha)
        refine ⟨⟨i + 1, j, out ++ [(((x1, x2), x3, x4) : Ent.E)], by omega, by omega, by rw [← HDR.out]; exact HL8.out, by rw [← HDB.out]; exact HRB2.out, OE.app ha.own, HMN.out, ha.ext HXL.out rfl HOL.out.own⟩, by simp [slLen]; omega⟩
    · have gA : ¬ 0 < (DA.length : Int) := by omega
      by_cases hB : 0 < DB.length
      · have gB : 0 < (DB.length : Int) := by omega
        have gB2 : ((DB.length : Int) == 0) = false := by rw [beq_eq_false_iff_ne]; omega
        obtain ⟨bB, oB, rfl, ya, yb, yc, yd⟩ := re4 hrb (k := 0) hB
        have hdB : SB[j]'(by omega) = DB[0] := by simp [HDB.out]
        have HMN := Lib.hid (HMER.out.right HAS.out HBS.out (by omega) (fun hi2 => absurd hi2 (by omega)))
        rw [hdB] at HMN
        clear hdB hra hrb
        generalize DB[0] = y at *
        obtain ⟨⟨y1, y2⟩, y3, y4⟩ := y
        dsimp only at *
        have ya := HE.out.cell (by simpa using ya : w5.cell? ⟨bB, oB, none⟩ = some (.int .i64 y1))
        have yb := HE.out.cell (by simpa using yb : w5.cell? ⟨bB, oB + 1, none⟩ = some (.int .i64 y2))
        have yc := HE.out.cell (by simpa using yc : w5.cell? ⟨bB, oB + 2, none⟩ = some (.int .i64 y3))
        have yd := HE.out.cell (by simpa using yd : w5.cell? ⟨bB, oB + 3, none⟩ = some (.int .i64 y4))
        go_wp2
        refine wp_region_ext (by kernel_rfl) (by rfl) (by rfl) (by kernel_rfl) ?_
        repeat (first | ((first | (refine wpM_move00 Ext.refl rfl rfl rfl ?_) | (refine wpM_move01 Ext.refl rfl rfl rfl rfl ?_)); apply Exists.intro; refine ⟨?_, ?_⟩; · (go_simp; rfl)) | (first | (refine wpM_movek0 Ext.refl rfl rfl rfl ?_) | (refine wpM_movek1 Ext.refl rfl rfl rfl rfl ?_)) | ((first | (refine wpM_val0 Ext.refl rfl ?_) | (refine wpM_val1 Ext.refl rfl rfl ?_)); apply Exists.intro; refine ⟨?_, ?_⟩; · (intro a w' hR; intro h1; (first | (have e1 : _ = _ := h1) | skip); intro h2; (first | (have e2 : _ = _ := h2) | skip); go_simp; rfl)) | ((first | (refine wpM_val0 Ext.refl rfl ?_) | (refine wpM_val1 Ext.refl rfl rfl ?_)); apply Exists.intro; refine ⟨?_, ?_⟩; · (intro a w' hR; intro h1; (first | (have e1 : _ = _ := h1) | skip); go_simp; rfl)) | ((first | (refine wpM_val0 Ext.refl rfl ?_) | (refine wpM_val1 Ext.refl rfl rfl ?_)); apply Exists.intro; refine ⟨?_, ?_⟩; · (intro a w' hR; go_simp; rfl)) | ((first | (refine wpM_val0 Ext.refl rfl ?_) | (refine wpM_val1 Ext.refl rfl rfl ?_)); apply Exists.intro; refine ⟨?_, ?_⟩; · (intro a w' hR; intro h1; (first | (have e1 : _ = _ := h1) | skip); intro h2; (first | (have e2 : _ = _ := h2) | skip); intro h3; (first | (have e3 : _ = _ := h3) | skip); go_simp; rfl)) | (refine wpM_skip1 rfl ?_) | (refine wpM_skipU rfl ?_))
        refine wpM_done ?_
        intro w6 hx6
        iterate 18 (rintro _ rfl)
        dsimp only [FinV]
        go_simp
        have ya := hx6.cell ya
        have yb := hx6.cell yb
        have yc := hx6.cell yc
        have yd := hx6.cell yd
        have HO6 := Lib.hid (HO.out.ext hx6)
        have HE6 := Lib.hid (HE.out.trans hx6)
        have hxl : Ext w6 (w6.alloc (.cells #[.int .i64 y1, .int .i64 y2, .int .i64 y3, .int .i64 y4] 33)) := (Ext.refl _).alloc _
        have HLT := Lib.hid (RE.lit w6 #[.int .i64 y1, .int .i64 y2, .int .i64 y3, .int .i64 y4] 33 1 [(((y1, y2), y3, y4) : Ent.E)] rfl (by omega) rfl)
        have HOL := Lib.hid (HO6.out.ext hxl)
        have HXL := Lib.hid (HE6.out.trans hxl)
        obtain ⟨A8, hlo8, rlo8⟩ := RE.lo1 elemE HRB2.out (by omega)
        have HL8 := Lib.hid rlo8
        have HDR := Lib.hid (show DB.drop 1 = SB.drop (j + 1) by rw [HDB.out, List.drop_drop])
        clear hxl rlo8 hx6
        go_wp2_with (at_builtin; refine wpList_app rfl elemE _ _ _ rfl w5.heap.size _ out.length _ rfl HOL.out.own _ 1 _ rfl HLT.out.rd (one_eV _) (by have := HOUT.out; omega) (by have := HOUT.out; unfold maxLen; omega) HXL.out.size ?_; intro v7 w7 ha)
        refine ⟨⟨i, j + 1, out ++ [(((y1, y2), y3, y4) : Ent.E)], by omega, by omega, by rw [← HDA.out]; exact HRA2.out, by rw [← HDR.out]; exact HL8.out, OE.app ha.own, HMN.out, ha.ext HXL.out rfl HOL.out.own⟩, by simp [slLen]; omega⟩
      · have gB : ¬ 0 < (DB.length : Int) := by omega
        have hi2 : i = SA.length := by omega
        have hj2 : j = SB.length := by omega
        have HF := Lib.hid (show out = Ent.srt l from by
          have h1 := HMER.out
          rw [hi2, hj2] at h1
          exact h1.done HPM.out)
        clear hra hrb hi2 hj2
        go_wp2
        go_ret
        rw [← HF.out]
        exact ⟨_, rfl, HO.out.low HX5.out.size, HX5.out.trans HE.out⟩
theorem rsortE_any (l : List Ent.E) : ∀ (v : Value) (w : World), RE w v l → l.length ≤ 1000000 → Calls Try.prog 20 #[v] w fun e w' => ∃ v', e = .returned v' ∧ OE 33 w.heap.size w' v' (Ent.srt l) ∧ Ext w w' := by
  have key : ∀ (n : Nat) (l : List Ent.E), l.length ≤ n → ∀ (v : Value) (w : World), RE w v l → l.length ≤ 1000000 → Calls Try.prog 20 #[v] w fun e w' => ∃ v', e = .returned v' ∧ OE 33 w.heap.size w' v' (Ent.srt l) ∧ Ext w w' := by
    intro n
    induction n with
    | zero => intro l hn v w hv _; exact rsortE_short v l w hv (by omega)
    | succ n ih =>
      intro l hn v w hv hl
      by_cases h2 : l.length < 2
      · exact rsortE_short v l w hv h2
      · exact rsortE_step v l w hv (by omega) hl fun v r w hr hlt => ih r (by omega) v w hr (by omega)
  exact key l.length l (Nat.le_refl _)
end Go.Proofs.Ytbokblklldphgaa
