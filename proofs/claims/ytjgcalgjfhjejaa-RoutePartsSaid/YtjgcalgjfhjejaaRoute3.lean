/-
  route.Join, Right, Stamp.
-/
import Derived.Test.YtjgcalgjfhjejaaRoute2
import Derived.Test.YtjgcalgjfhjejaaRecSame
import Derived.Test.YtjgcalgjfhjejaaEnt
namespace Go.Ox.Rt
/-- what is wrong with some parts together -/
def joinE (ls : List (List Rec.R)) : Int := if Rec.allP ls ≠ 0 then Rec.allP ls else Rec.may ls.flatten
/-- records at a moment -/
def stamp (l : List Rec.R) (m : Int × Int) : List Ent.E := l.map fun r => (m, r)
theorem stamp_s (l : List Rec.R) (m : Int × Int) {k : Nat} (h : k < l.length) : stamp (l.take (k + 1)) m = stamp (l.take k) m ++ [(m, l[k])] := by
  unfold stamp
  rw [List.take_succ_eq_append_getElem h, List.map_append]; rfl
def stampE (l : List Rec.R) (m : Int × Int) : Int := if Mom.ok m = true then Rec.may l else 40
end Go.Ox.Rt
namespace Go.Proofs.Ytjgcalgjfhjejaa
open Go.RowKit Go.Ox Go.Shelf
open Go.Ox.Rec (when0 when0_ok when0_no)
attribute [local irreducible] OP RP
set_option linter.unusedVariables false
set_option linter.unusedSimpArgs false

set_option maxRecDepth 100000 in
set_option maxHeartbeats 2000000 in
theorem join_any (v : Value) (ls : List (List Rec.R)) (w : World) (hv : RRS w v ls) (hl : ∀ l ∈ ls, l.length ≤ 1000000) (hf : ls.flatten.length ≤ 1000000) :
    Calls Try.prog 9 #[v] w fun e w' => ∃ u, e = .returned (.tuple #[u, .int .i64 (Rt.joinE ls)]) ∧ RP w' u (when0 (Rt.joinE ls) (Rec.srt ls.flatten)) ∧ Ext w w' := by
  obtain ⟨A, c, rfl⟩ := hv.form
  have HV := Lib.hid hv
  have HL := Lib.hid hl
  have hm9 := hv.len_le
  unfold maxLen at hm9
  have HCC := Lib.hid (fun w h => concatM_any (.slice A ls.length c) ls w h (by omega))
  have HSO := Lib.hid (fun v w h => sort_all v ls.flatten w h hf)
  have HJ := Lib.hid (show Rt.joinE ls = if Rec.allP ls ≠ 0 then Rec.allP ls else Rec.may ls.flatten from rfl)
  generalize Rt.joinE ls = je at *
  clear hv hl
  go_enter Try.func9, Try.ntmps9
  go_wp2
  go_loopw [9] (fun iv wr => ∃ k : Nat, k ≤ ls.length ∧ iv = .int .i64 k ∧ Rec.allP ls = Rec.allP (ls.drop k) ∧ Ext w wr) (fun iv _ => ls.length - (intOf iv).toNat)
  case atStart => exact ⟨0, Nat.zero_le _, rfl, rfl, Ext.refl _⟩
  case round =>
    obtain ⟨k, hk, rfl, hp, hext⟩ := hrel
    have HE := Lib.hid hext
    have HP := Lib.hid hp
    clear hp
    by_cases hlt : k < ls.length
    · have g1 : (k : Int) < (ls.length : Int) := by omega
      have g0 : 0 ≤ (k : Int) := by omega
      obtain ⟨bA, oA, u, rfl, c0, hu⟩ := (HV.out.extE hext).at_ hlt
      have HM := Lib.hid (fun w (q : RP w u ls[k]) => may_any u ls[k] w q (HL.out _ (List.getElem_mem hlt)))
      have HU := Lib.hid hu
      have hd : ls.drop k = ls[k] :: ls.drop (k + 1) := List.drop_eq_getElem_cons hlt
      obtain ⟨A1, c1, rfl⟩ := hu.form
      rw [hd] at HP
      have HLT := Lib.hid hlt
      generalize ls[k] = l at *
      clear hext hd hu
      by_cases hm : Rec.may l = 0
      · rw [Rec.allP_ok hm] at HP
        rw [hm] at HM
        clear hm
        go_wp2_with fail
        refine (HM.out _ HU.out).mono ?_
        rintro e w1 ⟨rfl, he1⟩
        go_wp2
        exact ⟨⟨k + 1, by omega, by go_num, HP.out, HE.out.trans he1⟩, by simp [intOf]; omega⟩
      · rw [Rec.allP_bad hm] at HP
        have h2 : (Rec.may l != 0) = true := by simpa using hm
        have HJE := Lib.hid (show je = Rec.may l by rw [HJ.out, HP.out, if_pos hm])
        have HMN := Lib.hid hm
        clear hm HP HJ
        generalize Rec.may l = m at *
        go_wp2_with fail
        refine (HM.out _ HU.out).mono ?_
        rintro e w1 ⟨rfl, he1⟩
        go_wp2
        go_ret2
        rw [HJE.out, when0_no HMN.out]
        exact ⟨_, rfl, RP.nilS _, HE.out.trans he1⟩
    · have hk2 : k = ls.length := by omega
      subst hk2
      have g1 : ¬ (ls.length : Int) < (ls.length : Int) := by omega
      rw [List.drop_length] at HP
      have HJE := Lib.hid (show je = Rec.may ls.flatten by rw [HJ.out, if_neg (by rw [HP.out]; simp [Rec.allP])])
      rw [← HJE.out] at HSO
      clear hext HJ HP
      go_wp2_with fail
      refine (HCC.out _ (HV.out.extE HE.out)).mono ?_
      rintro e w1 ⟨v1, rfl, ho1, he1⟩
      have HO1 := Lib.hid ho1.rp
      have HX1 := Lib.hid (HE.out.trans he1)
      clear ho1 he1
      go_wp2_with fail
      refine (HSO.out _ _ HO1.out).mono ?_
      rintro e w2 ⟨v2, rfl, ho2, he2⟩
      go_wp2
      go_ret2
      exact ⟨_, rfl, ho2, HX1.out.trans he2⟩

set_option maxRecDepth 100000 in
set_option maxHeartbeats 1000000 in
theorem right1_gives (s n : Int) (B : Nat) (w : World) (hB : B + 1 < w.heap.size) (h1 : w.cell? ⟨B, 0, none⟩ = some (.int .i64 s)) (h2 : w.cell? ⟨B + 1, 0, none⟩ = some (.int .i64 n)) :
    PredBelow Try.prog 21 #[.pointer (some ⟨B + 1, 0, none⟩), .pointer (some ⟨B, 0, none⟩)] (fun x => .agg (encM x).toArray) (fun x => decide (Rt.shard x.1 n ≠ s)) w := fun W x hb => by
  show Calls Try.prog 21 #[mV x, .pointer (some ⟨B + 1, 0, none⟩), .pointer (some ⟨B, 0, none⟩)] W _
  have HSH := Lib.hid (fun w => shard_any x.1 n w)
  have k1 := (hb.cell (p := ⟨B, 0, none⟩) (by simp only; omega)).trans h1
  have k2 := (hb.cell (p := ⟨B + 1, 0, none⟩) (by simp only; omega)).trans h2
  have f1 := ((Ext.refl W).alloc (.cells #[.int .i64 x.1, .int .i64 x.2] 42)).cell k1
  have f2 := ((Ext.refl W).alloc (.cells #[.int .i64 x.1, .int .i64 x.2] 42)).cell k2
  have hxl : Ext W (W.alloc (.cells #[.int .i64 x.1, .int .i64 x.2] 42)) := (Ext.refl _).alloc _
  have HX := Lib.hid hxl
  have HBB := Lib.hid hb
  obtain ⟨a, b⟩ := x
  dsimp only at *
  have y0 : (W.alloc (.cells #[.int .i64 a, .int .i64 b] 42)).cell? ⟨W.heap.size, 0, none⟩ = some (.int .i64 a) := (Blk.new W 42 #[.int .i64 a, .int .i64 b]).cell 0
  have HNE := Lib.hid (show (Rt.shard a n != s) = decide (Rt.shard a n ≠ s) by by_cases h : Rt.shard a n = s <;> simp [h])
  clear h1 h2 k1 k2 hb hxl
  go_enter Try.func21, Try.ntmps21
  go_wp2
  generalize W.heap.size = p at *
  generalize W.alloc (.cells #[.int .i64 a, .int .i64 b] 42) = W0 at *
  refine wp_regionY [] [] Ext Ext (fun _ => True) (by kernel_rfl) (by rfl) (by rfl) (by kernel_rfl) (by kernel_rfl) (by kernel_rfl) (fun _ _ _ x y => x.trans y) Ext.refl (fun _ _ x => x) (Ext.refl _).drew (fun _ _ x _ => x) trivial ?_
  repeat (first | (refine wpY_move0 rfl rfl (by first | exact runs0 | exact runs1 rfl) Ext.refl rfl rfl rfl ?_; apply Exists.intro; refine ⟨?_, ?_⟩; · (go_simp; rfl)) | (refine wpY_move rfl rfl (by first | exact runs0 | exact runs1 rfl) Ext.refl rfl rfl rfl (fun _ _ _ h _ => h) ?_) | (refine wpY_val rfl rfl (by first | exact runs0 | exact runs1 rfl) Ext.refl rfl ?_; apply Exists.intro; refine ⟨?_, ?_⟩; · (intro a w' hR; intro h1; (first | (have e1 : _ = _ := h1) | skip); intro h2; (first | (have e2 : _ = _ := h2) | skip); go_simp; rfl)) | (refine wpY_val rfl rfl (by first | exact runs0 | exact runs1 rfl) Ext.refl rfl ?_; apply Exists.intro; refine ⟨?_, ?_⟩; · (intro a w' hR; intro h1; (first | (have e1 : _ = _ := h1) | skip); go_simp; rfl)) | (refine wpY_val rfl rfl (by first | exact runs0 | exact runs1 rfl) Ext.refl rfl ?_; apply Exists.intro; refine ⟨?_, ?_⟩; · (intro a w' hR; go_simp; rfl)) | (refine wpY_val rfl rfl (by first | exact runs0 | exact runs1 rfl) Ext.refl rfl ?_; apply Exists.intro; refine ⟨?_, ?_⟩; · (intro a w' hR; intro h1; (first | (have e1 : _ = _ := h1) | skip); intro h2; (first | (have e2 : _ = _ := h2) | skip); intro h3; (first | (have e3 : _ = _ := h3) | skip); go_simp; rfl)) | (refine wpY_skip rfl rfl (by first | exact .inl rfl | exact .inr rfl) ?_))
  refine wpY_val rfl rfl (by first | exact runs0 | exact runs1 rfl) Ext.refl rfl ?_; apply Exists.intro; refine ⟨?_, ?_⟩
  · intro a w' hR h1
    have e1 : _ = _ := h1
    have hl := hR.cell y0
    go_simp
    rfl
  refine wpY_val rfl rfl (by first | exact runs0 | exact runs1 rfl) Ext.refl rfl ?_; apply Exists.intro; refine ⟨?_, ?_⟩
  · intro a w' hR h1
    have e1 : _ = _ := h1
    have hl := hR.cell f2
    go_simp
    rfl
  refine wpY_call (fun v _ => v = .int .i64 (Rt.shard a n)) rfl rfl (by first | exact runs0 | exact runs1 rfl) rfl (by first | exact mono_eq | exact (fun _ _ _ h k => Rd.ext h k) | exact (fun _ _ _ h k => RB.ext h k) | exact (fun _ _ _ h k => OB.ext h k) | exact (fun _ _ _ h k => RB.extS h k) | exact (fun _ _ _ h k => Rd.ext h (GrownW.ext k)) | exact (fun _ _ _ h k => RP.ext h k) | exact (fun _ _ _ h k => OP.ext h k) | exact (fun _ _ _ h k => Rd.extV h k) | exact (fun _ _ _ h k => RB.extV h k) | exact (fun _ _ _ h k => E0.ext h k) | exact (fun _ _ _ h k => O0.ext h k) | exact (fun _ _ _ h k => RE.ext h k) | exact (fun _ _ _ h k => RE.extD h k) | exact (fun _ _ _ h _ => h) | exact (fun _ _ _ ⟨n, h1, h2⟩ k => ⟨n, h1, k.st _ _ h2⟩)) ?_ ?_
  · intro a w' hR h1 h2 K hK
    have e1 : _ = _ := h1
    have e2 : _ = _ := h2
    go_simp
    refine (HSH.out w').mono ?_
    rintro e w2 ⟨rfl, rfl⟩
    exact hK _ _ (Ext.refl _) rfl
  refine wpY_val rfl rfl (by first | exact runs0 | exact runs1 rfl) Ext.refl rfl ?_; apply Exists.intro; refine ⟨?_, ?_⟩
  · intro a w' hR h1
    have e1 : _ = _ := h1
    have hl := hR.cell f1
    go_simp
    rfl
  repeat (first | (refine wpY_move0 rfl rfl (by first | exact runs0 | exact runs1 rfl) Ext.refl rfl rfl rfl ?_; apply Exists.intro; refine ⟨?_, ?_⟩; · (go_simp; rfl)) | (refine wpY_move rfl rfl (by first | exact runs0 | exact runs1 rfl) Ext.refl rfl rfl rfl (fun _ _ _ h _ => h) ?_) | (refine wpY_val rfl rfl (by first | exact runs0 | exact runs1 rfl) Ext.refl rfl ?_; apply Exists.intro; refine ⟨?_, ?_⟩; · (intro a w' hR; intro h1; (first | (have e1 : _ = _ := h1) | skip); intro h2; (first | (have e2 : _ = _ := h2) | skip); go_simp; rfl)) | (refine wpY_val rfl rfl (by first | exact runs0 | exact runs1 rfl) Ext.refl rfl ?_; apply Exists.intro; refine ⟨?_, ?_⟩; · (intro a w' hR; intro h1; (first | (have e1 : _ = _ := h1) | skip); go_simp; rfl)) | (refine wpY_val rfl rfl (by first | exact runs0 | exact runs1 rfl) Ext.refl rfl ?_; apply Exists.intro; refine ⟨?_, ?_⟩; · (intro a w' hR; go_simp; rfl)) | (refine wpY_val rfl rfl (by first | exact runs0 | exact runs1 rfl) Ext.refl rfl ?_; apply Exists.intro; refine ⟨?_, ?_⟩; · (intro a w' hR; intro h1; (first | (have e1 : _ = _ := h1) | skip); intro h2; (first | (have e2 : _ = _ := h2) | skip); intro h3; (first | (have e3 : _ = _ := h3) | skip); go_simp; rfl)) | (refine wpY_skip rfl rfl (by first | exact .inl rfl | exact .inr rfl) ?_))
  refine wpY_done ?_
  intro w5 hx5 hS
  iterate 7 (rintro _ rfl)
  dsimp only [FinV]
  go_simp
  go_wp2
  go_ret
  rw [← HNE.out]
  exact ⟨rfl, HBB.out.trans ((HX.out.trans hx5).mono HBB.out.size)⟩
set_option maxRecDepth 100000 in
set_option maxHeartbeats 1000000 in
theorem right_any (v : Value) (l : List Rec.R) (s n : Int) (w : World) (hv : RP w v l) (hl : l.length ≤ 1000000) :
    Calls Try.prog 8 #[v, .int .i64 s, .int .i64 n] w fun e w' => e = .returned (.bool (!(l.any fun x => decide (Rt.shard x.1 n ≠ s)))) ∧ Ext w w' := by
  have eg : ∀ args w, (callFunc 21 args).run Try.prog w = .ok (.enter 21 args) w := enters_of Try.func21 (by kernel_rfl) rfl
  have hx := ((Ext.refl w).alloc (.cells #[.int .i64 s] 3)).alloc (.cells #[.int .i64 n] 3)
  have hb1 := (Blk.new w 3 #[.int .i64 s]).ext ((Ext.refl _).alloc (.cells #[.int .i64 n] 3))
  have hb2 := Blk.new (w.alloc (.cells #[.int .i64 s] 3)) 3 #[.int .i64 n]
  have hsz : (w.alloc (.cells #[.int .i64 s] 3)).heap.size = w.heap.size + 1 := by simp
  rw [hsz] at hb2
  have HC := Lib.hid (containsF_any (fun x => decide (Rt.shard x.1 n ≠ s)) 21 #[.pointer (some ⟨w.heap.size + 1, 0, none⟩), .pointer (some ⟨w.heap.size, 0, none⟩)] eg v l _ (hv.ext hx) (right1_gives s n w.heap.size _ (by simp) (hb1.cell 0) (hb2.cell 0)) (by omega))
  have HX := Lib.hid hx
  generalize (l.any fun x => decide (Rt.shard x.1 n ≠ s)) = q at *
  clear hx hb1 hb2 eg hv hsz
  go_enter Try.func8, Try.ntmps8
  go_wp2_with (go_at_call 20; refine HC.out.mono ?_; rintro e w1 ⟨rfl, he1⟩)
  go_ret
  exact ⟨rfl, HX.out.trans he1⟩

set_option maxRecDepth 100000 in
set_option maxHeartbeats 4000000 in
theorem stamp_any (v : Value) (l : List Rec.R) (m : Int × Int) (w : World) (hv : RP w v l) (hl : l.length ≤ 1000000) :
    Calls Try.prog 12 #[v, mV m] w fun e w' => ∃ u, e = .returned (.tuple #[u, .int .i64 (Rt.stampE l m)]) ∧ RE w' u (when0 (Rt.stampE l m) (Rt.stamp l m)) ∧ Ext w w' := by
  have HMC := Lib.hid (fun w => Mo.check_any m w)
  have HMY := Lib.hid (fun w h => may_any v l w h hl)
  have HL := Lib.hid hl
  have HST := Lib.hid (show Rt.stampE l m = if Mom.ok m = true then Rec.may l else 40 from rfl)
  generalize Rt.stampE l m = se at *
  obtain ⟨A, c, rfl⟩ := hv.form
  have HX0 := Lib.hid ((Ext.refl w).alloc (.cells #[.int .i64 m.1, .int .i64 m.2] 35))
  have HV0 := Lib.hid (hv.ext HX0.out)
  obtain ⟨m1, m2⟩ := m
  dsimp only at HX0 HV0
  have HB0 := Lib.hid (Blk.new w 35 #[.int .i64 m1, .int .i64 m2])
  clear hv hl
  generalize hk : Mom.ok (m1, m2) = ok at *
  clear hk
  cases ok with
  | false =>
    rw [if_neg (by simp)] at HMC
    have HSE := Lib.hid (show se = 40 by rw [HST.out]; simp)
    clear HST
    have c0 := HB0.out.cell 0
    have c1 := HB0.out.cell 1
    have c0 : (w.alloc (.cells #[.int .i64 m1, .int .i64 m2] 35)).cell? ⟨w.heap.size, 0, none⟩ = some (.int .i64 m1) := c0
    have c1 : (w.alloc (.cells #[.int .i64 m1, .int .i64 m2] 35)).cell? ⟨w.heap.size, 1, none⟩ = some (.int .i64 m2) := c1
    go_enter Try.func12, Try.ntmps12
    go_wp2_with fail
    refine (HMC.out _).mono ?_
    rintro e w1 ⟨rfl, he1⟩
    go_wp2
    go_ret2
    rw [HSE.out, when0_no (by decide)]
    exact ⟨_, rfl, RE.nilS _, HX0.out.trans he1⟩
  | true =>
    rw [if_pos rfl] at HMC
    have HSE := Lib.hid (show se = Rec.may l by rw [HST.out, if_pos rfl])
    clear HST
    have c0 := HB0.out.cell 0
    have c1 := HB0.out.cell 1
    have c0 : (w.alloc (.cells #[.int .i64 m1, .int .i64 m2] 35)).cell? ⟨w.heap.size, 0, none⟩ = some (.int .i64 m1) := c0
    have c1 : (w.alloc (.cells #[.int .i64 m1, .int .i64 m2] 35)).cell? ⟨w.heap.size, 1, none⟩ = some (.int .i64 m2) := c1
    go_enter Try.func12, Try.ntmps12
    go_wp2_with fail
    refine (HMC.out _).mono ?_
    rintro e w1 ⟨rfl, he1⟩
    have HV1 := Lib.hid (HV0.out.ext he1)
    have HB1 := Lib.hid (HB0.out.ext he1)
    have HX1 := Lib.hid (HX0.out.trans he1)
    obtain ⟨p, hp⟩ : ∃ p, w.heap.size = p := ⟨_, rfl⟩
    rw [hp] at HB1 ⊢
    clear he1 c0 c1 hp HV0 HB0 HX0
    by_cases hm : Rec.may l = 0
    · rw [hm] at HMY HSE
      clear hm
      go_wp2_with fail
      refine (HMY.out _ HV1.out).mono ?_
      rintro e w2 ⟨rfl, he2⟩
      have HV2 := Lib.hid (HV1.out.ext he2)
      have HB2 := Lib.hid (HB1.out.ext he2)
      have HX2 := Lib.hid (HX1.out.trans he2)
      clear he2 HV1 HB1 HX1
      go_wp2
      go_loopw [8, 23] (fun o iv wr => ∃ k : Nat, k ≤ l.length ∧ iv = .int .i64 (k : Int) ∧ OE 44 w2.heap.size wr o (Rt.stamp (l.take k) (m1, m2)) ∧ Ext w2 wr) (fun _ iv _ => l.length - (intOf iv).toNat)
      case atStart => exact ⟨0, Nat.zero_le _, rfl, OE.nilS _ _ _, Ext.refl _⟩
      case round =>
        obtain ⟨k, hk, rfl, ho, hext⟩ := hrel
        have HE := Lib.hid hext
        have HO := Lib.hid ho
        obtain ⟨AO, cO, rfl⟩ := ho.re.form
        have HOUT := Lib.hid (show (Rt.stamp (l.take k) (m1, m2)).length ≤ 1000000 by unfold Rt.stamp; rw [List.length_map, List.length_take]; have := HL.out; omega)
        clear ho
        by_cases hlt : k < l.length
        · have g1 : (k : Int) < (l.length : Int) := by omega
          have g0 : 0 ≤ (k : Int) := by omega
          have HLT := Lib.hid hlt
          have hkb : k ≤ 1000000 := by have := HL.out; omega
          obtain ⟨bA, oA, rfl, xa, xb⟩ := (HV2.out.ext hext).at_ (k := k) hlt
          have HSN := Lib.hid (Rt.stamp_s l (m1, m2) hlt)
          have c0 := (HB2.out.ext hext).cell 0
          have c1 := (HB2.out.ext hext).cell 1
          have c0 : wr.cell? ⟨p, 0, none⟩ = some (.int .i64 m1) := c0
          have c1 : wr.cell? ⟨p, 1, none⟩ = some (.int .i64 m2) := c1
          generalize Rt.stamp (l.take k) (m1, m2) = out at *
          generalize l[k] = x at *
          obtain ⟨x1, x2⟩ := x
          dsimp only at *
          have hxl : Ext wr (wr.alloc (.cells #[.int .i64 x1, .int .i64 x2] 42)) := (Ext.refl _).alloc _
          have y0 : (wr.alloc (.cells #[.int .i64 x1, .int .i64 x2] 42)).cell? ⟨wr.heap.size, 0, none⟩ = some (.int .i64 x1) := (Blk.new wr 42 #[.int .i64 x1, .int .i64 x2]).cell 0
          have y1 : (wr.alloc (.cells #[.int .i64 x1, .int .i64 x2] 42)).cell? ⟨wr.heap.size, 1, none⟩ = some (.int .i64 x2) := (Blk.new wr 42 #[.int .i64 x1, .int .i64 x2]).cell 1
          have c0 := hxl.cell c0
          have c1 := hxl.cell c1
          have HO5 := Lib.hid (HO.out.ext hxl)
          have HX5 := Lib.hid (HE.out.trans hxl)
          clear hext hk hlt
          go_upto_region 11 with fail
          generalize wr.heap.size = q at *
          generalize wr.alloc (.cells #[.int .i64 x1, .int .i64 x2] 42) = w5 at *
          have HXL := Lib.hid (HX5.out.alloc (.cells #[.int .i64 m1, .int .i64 m2, .int .i64 x1, .int .i64 x2] 44))
          have HOL := Lib.hid (HO5.out.ext ((Ext.refl _).alloc (.cells #[.int .i64 m1, .int .i64 m2, .int .i64 x1, .int .i64 x2] 44)))
          have HLIT := Lib.hid (RE.lit w5 #[.int .i64 m1, .int .i64 m2, .int .i64 x1, .int .i64 x2] 44 1 [(((m1, m2), (x1, x2)) : Ent.E)] rfl (by omega) rfl)
          clear hxl xa xb
          go_wp2_with (at_builtin; refine wpList_appE rfl elemE _ _ _ rfl w2.heap.size _ _ out [(((m1, m2), (x1, x2)) : Ent.E)] rfl HOL.out rfl HLIT.out (by have := HOUT.out; simp; omega) (by have := HOUT.out; unfold maxLen; simp; omega) HXL.out.size ?_; intro v7 w7 ho7 hg7 hat7)
          exact ⟨⟨k + 1, HLT.out, by go_num, by rw [HSN.out]; exact ho7, HXL.out.grown hat7 fun g hg => (HOL.out.own.lt g hg).1⟩, by have := HLT.out; simp [intOf]; omega⟩
        · obtain rfl : k = l.length := by omega
          have g1 : ¬ (l.length : Int) < (l.length : Int) := by omega
          rw [List.take_length] at HO ⊢
          generalize hq : Rt.stamp l (m1, m2) = out at *
          have HQ := Lib.hid hq
          clear hext hq
          go_wp2
          go_ret2
          rw [HSE.out, when0_ok rfl, HQ.out]
          exact ⟨_, rfl, HO.out.re, HX2.out.trans HE.out⟩
    · have h2 : (Rec.may l != 0) = true := by simpa using hm
      have HMN := Lib.hid hm
      generalize Rec.may l = ml at *
      clear hm
      go_wp2_with fail
      refine (HMY.out _ HV1.out).mono ?_
      rintro e w2 ⟨rfl, he2⟩
      go_wp2
      go_ret2
      rw [HSE.out, when0_no HMN.out]
      exact ⟨_, rfl, RE.nilS _, HX1.out.trans he2⟩
end Go.Proofs.Ytjgcalgjfhjejaa
