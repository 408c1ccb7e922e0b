/-
  ScrDec, packed: what the claim needs of them.
-/
import Derived.Test.YtpmpjjhchkoboaaGreatDoorPc32
import Derived.Test.YtpmpjjhchkoboaaGreatDoorPc24
open Go.Lib (hid)
set_option linter.unusedSimpArgs false
set_option linter.unusedVariables false
set_option maxRecDepth 100000
namespace Go.Ox.Sc
open Go.Ox.Num (St numP bytesP)
open Go.Ox.Gr (PS bd numsL okI numC bd_mk)
def scZ : Sc := ⟨(0, 0, 0, 0), ([], 0), [], []⟩
def sres (r : Sc × Bool) : Sc := if r.2 = true then r.1 else scZ
def serr (r : Sc × Bool) : Int := if r.2 = true then 0 else 260
noncomputable def decA (cf : Int × Int × Int × Int) (g : Gr.G) (il : List (List Bag)) (A : PS × List Act) : Sc × Bool :=
 (⟨cf, g, il, A.2⟩, !A.1.gb && (!A.1.s.bad && (A.1.s.l.isEmpty && scOk ⟨cf, g, il, A.2⟩)))
theorem decP_no {b : List UInt8} (h : (Gr.getP (partP (seqP 4 ⟨⟨b, false⟩, false⟩).1).2).2 = false) : sres (decP b) = scZ ∧ serr (decP b) = 260 := by
 have e : (decP b).2 = false := by
  unfold decP
  dsimp only
  rw [h]
  simp
 unfold sres serr
 rw [e]
 exact ⟨rfl, rfl⟩
theorem decP_yes {b : List UInt8} (h : (Gr.getP (partP (seqP 4 ⟨⟨b, false⟩, false⟩).1).2).2 = true) :
 decP b = decA (cfg4 (seqP 4 ⟨⟨b, false⟩, false⟩).2) (Gr.gres (Gr.getP (partP (seqP 4 ⟨⟨b, false⟩, false⟩).1).2)) (rowP 16 epP ⟨(partP (seqP 4 ⟨⟨b, false⟩, false⟩).1).1.s, false⟩).2 (rowP 256 actP (rowP 16 epP ⟨(partP (seqP 4 ⟨⟨b, false⟩, false⟩).1).1.s, false⟩).1) := by
 unfold decP decA
 dsimp only
 generalize seqP 4 ⟨⟨b, false⟩, false⟩ = c at *
 generalize partP c.1 = pt at *
 generalize Gr.getP pt.2 = G at *
 rw [h, if_pos rfl, if_pos rfl]
 rfl
theorem decA_no {cf : Int × Int × Int × Int} {g : Gr.G} {il : List (List Bag)} {A : PS × List Act} (h : (decA cf g il A).2 = false) : sres (decA cf g il A) = scZ ∧ serr (decA cf g il A) = 260 := by
 unfold sres serr
 rw [h]
 exact ⟨rfl, rfl⟩
theorem decA_no1 {cf : Int × Int × Int × Int} {g : Gr.G} {il : List (List Bag)} {A : PS × List Act} (h : A.1.gb = true) : sres (decA cf g il A) = scZ ∧ serr (decA cf g il A) = 260 := decA_no (by unfold decA; dsimp only; rw [h]; rfl)
theorem decA_no2 {cf : Int × Int × Int × Int} {g : Gr.G} {il : List (List Bag)} {A : PS × List Act} (h : A.1.s.bad = true ∨ A.1.s.l ≠ []) : sres (decA cf g il A) = scZ ∧ serr (decA cf g il A) = 260 := decA_no (by
 unfold decA
 dsimp only
 rcases h with h | h
 · rw [h]; simp
 · cases hl : A.1.s.l with
   | nil => exact absurd hl h
   | cons x y => simp)
theorem decA_no3 {cf : Int × Int × Int × Int} {g : Gr.G} {il : List (List Bag)} {A : PS × List Act} (h : scOk ⟨cf, g, il, A.2⟩ = false) : sres (decA cf g il A) = scZ ∧ serr (decA cf g il A) = 260 := decA_no (by unfold decA; dsimp only; rw [h]; simp)
theorem decA_yes {cf : Int × Int × Int × Int} {g : Gr.G} {il : List (List Bag)} {A : PS × List Act} (h1 : A.1.gb = false) (h2 : ¬ (A.1.s.bad = true ∨ A.1.s.l ≠ [])) (h3 : scOk ⟨cf, g, il, A.2⟩ = true) : sres (decA cf g il A) = ⟨cf, g, il, A.2⟩ ∧ serr (decA cf g il A) = 0 := by
 have hb : A.1.s.bad = false := by cases h : A.1.s.bad with | true => exact absurd (.inl h) h2 | false => rfl
 have hl : A.1.s.l = [] := by cases h : A.1.s.l with | nil => rfl | cons x y => exact absurd (.inr (by rw [h]; simp)) h2
 have e : (decA cf g il A).2 = true := by unfold decA; dsimp only; rw [h1, hb, hl, h3]; rfl
 unfold sres serr
 rw [e]
 exact ⟨rfl, rfl⟩
theorem itrA_all {α : Type} {f : PS → PS × α} {P : α → Prop} (hf : ∀ S, P (f S).2) : ∀ (n : Nat) (S : PS), (itrA f n S).2.length ≤ n ∧ ∀ x ∈ (itrA f n S).2, P x
 | 0, S => ⟨Nat.le_refl _, fun x hx => by simp [itrA] at hx⟩
 | n + 1, S => by
  by_cases h : S.gb = true ∨ S.s.bad = true
  · rw [itrA_stop h]; exact ⟨by simp, fun x hx => by simp at hx⟩
  · rw [itrA_go h]
    obtain ⟨h1, h2⟩ := itrA_all hf n (f S).1
    refine ⟨by simp; exact h1, fun x hx => ?_⟩
    rcases List.mem_cons.1 hx with rfl | hx
    · exact hf S
    · exact h2 x hx
theorem rowP_all {α : Type} {f : PS → PS × α} {P : α → Prop} (hf : ∀ S, P (f S).2) (most : Int) (hm : 0 ≤ most) (S : PS) : ((rowP most f S).2.length : Int) ≤ most ∧ ∀ x ∈ (rowP most f S).2, P x := by
 unfold rowP
 split
 · exact ⟨by simpa using hm, fun x hx => by simp at hx⟩
 · rename_i h
   obtain ⟨h1, h2⟩ := itrA_all hf (numP S.s).2 ⟨(numP S.s).1, S.gb⟩
   exact ⟨by omega, h2⟩
theorem partP_small (S : PS) : (partP S).2.length ≤ S.s.l.length := by
 have h1 := Num.numP_len S.s
 have h2 : (bytesP ((numP S.s).2 : Int) (numP S.s).1).2.length ≤ (numP S.s).1.l.length := by
  by_cases hn : (numP S.s).1.bad = true ∨ ((numP S.s).2 : Int) < 0 ∨ (((numP S.s).1.l.length : Nat) : Int) < ((numP S.s).2 : Int)
  · rw [Num.bytesP_no hn]; simp
  · have hb : (numP S.s).1.bad = false := by cases h0 : (numP S.s).1.bad with | true => exact absurd (.inl h0) hn | false => rfl
    rw [Num.bytesP_yes hb (by omega)]
    simp
    omega
 exact Nat.le_trans h2 h1
theorem bagP_small (S : PS) : (bagP S).2.length ≤ 4096 := by
 show (Rec.decL (partP S).2).length ≤ 4096
 generalize (partP S).2 = b
 unfold Rec.decL
 split
 · rename_i h
   have h1 := (Classical.choose_spec h).back
   have h2 := (Rec.may_ok h1.1).2
   omega
 · simp
theorem epP_small (S : PS) : (epP S).2.length ≤ 4 ∧ ∀ b ∈ (epP S).2, b.length ≤ 4096 := by
 have h := rowP_all (f := bagP) (P := fun b => b.length ≤ 4096) bagP_small 4 (by omega) S
 exact ⟨by have h1 := h.1; unfold epP; omega, h.2⟩
theorem actP_small (S : PS) : (actP S).2.2.length ≤ 256 := by
 have h := rowP_all (f := numW) (P := fun _ => True) (fun _ => trivial) 256 (by omega) (seqP 5 S).1
 unfold actP
 dsimp only
 omega
theorem decSm (cf : Int × Int × Int × Int) (g : Gr.G) (S T : PS) : ScSm ⟨cf, g, (rowP 16 epP S).2, (rowP 256 actP T).2⟩ := by
 have h1 := rowP_all (f := epP) (P := fun l => l.length ≤ 4 ∧ ∀ b ∈ l, b.length ≤ 4096) epP_small 16 (by omega) S
 have h2 := rowP_all (f := actP) (P := fun a => a.2.length ≤ 256) actP_small 256 (by omega) T
 exact ⟨by have := h1.1; dsimp only; omega, fun l hl => ⟨by have := (h1.2 l hl).1; omega, fun b hb => by have := (h1.2 l hl).2 b hb; omega⟩, by have := h2.1; dsimp only; omega, fun a ha => by have := h2.2 a ha; omega⟩
end Go.Ox.Sc
namespace Go.Proofs.YtpmpjjhchkoboaaGreatDoor
open Go.RowKit Go.Ox Go.Ox.Gr Go.Ox.Sc
theorem Bx8.set_45 {w : World} {q : Nat} {T : TypeId} {a0 a1 a2 a3 a4 a5 a6 a7 : Value} (h : Bx8 w q T a0 a1 a2 a3 a4 a5 a6 a7) (v u : Value) : Bx8 ((w.setCell ⟨q, 4, none⟩ v).setCell ⟨q, 5, none⟩ u) q T a0 a1 a2 a3 v u a6 a7 := ⟨by simpa using (h.b.set_ 4 v).set_ 5 u⟩
theorem ActsR.of_rs {w : World} {v : Value} {ls : List Sc.Act} (h : RS 6 ActQ w v ls) : ActsR w v ls := h
attribute [local irreducible] RE OE OB RB NodesR EpR InsR ActsR RP OP
set_option maxHeartbeats 16000000 in
theorem sDecodeS_any (v : Value) (b : List UInt8) (w : World) (hv : RB w v b) (hl : b.length ≤ 1000000) :
 Calls Tryz.prog 13 #[v] w fun e w' => ∃ nv iv av, e = .returned (.tuple #[scAg (sres (decP b)) nv iv av, .int .i64 (serr (decP b))]) ∧ (∀ W, ExtQ (fun k => k < w.heap.size) w' W → ScR 2 W nv iv av (sres (decP b))) ∧ Ext w w' := by
 have hx0 := (Ext.refl w).alloc (scCs (.int .i64 0) (.int .i64 0) (.int .i64 0) (.int .i64 0) (.slice none 0 0) 0 (.slice none 0 0) (.slice none 0 0))
 have HX0 := hid hx0
 have HRS0 := hid (Bx8.new w 30 (.int .i64 0) (.int .i64 0) (.int .i64 0) (.int .i64 0) (.slice none 0 0) (.int .i64 0) (.slice none 0 0) (.slice none 0 0))
 have HF := hid (from_any v b _ (hv.ext hx0) hl)
 have HDN := hid (@decP_no b)
 have HDY := hid (@decP_yes b)
 have hsq : seqP 4 ⟨⟨b, false⟩, false⟩ = (⟨(Num.numP (Num.numP (Num.numP (Num.numP ⟨b, false⟩).1).1).1).1, false⟩, [((Num.numP ⟨b, false⟩).2 : Int), ((Num.numP (Num.numP ⟨b, false⟩).1).2 : Int), ((Num.numP (Num.numP (Num.numP ⟨b, false⟩).1).1).2 : Int), ((Num.numP (Num.numP (Num.numP (Num.numP ⟨b, false⟩).1).1).1).2 : Int)]) := rfl
 rw [hsq] at HDN HDY
 clear hsq
 dsimp only at HDN HDY
 generalize decP b = RES at *
 have HN1 := hid (fun (K : Nat → Prop) g w (h : NR K w g ⟨b, false⟩) => num_any g ⟨b, false⟩ w h (hl))
 have hl1 := Num.numP_len ⟨b, false⟩
 generalize Num.numP ⟨b, false⟩ = t at *
 obtain ⟨s1, n1⟩ := t
 dsimp only at *
 have HN2 := hid (fun (K : Nat → Prop) g w (h : NR K w g s1) => num_any g s1 w h (by omega))
 have hl2 := Num.numP_len s1
 generalize Num.numP s1 = t at *
 obtain ⟨s2, n2⟩ := t
 dsimp only at *
 have HN3 := hid (fun (K : Nat → Prop) g w (h : NR K w g s2) => num_any g s2 w h (by omega))
 have hl3 := Num.numP_len s2
 generalize Num.numP s2 = t at *
 obtain ⟨s3, n3⟩ := t
 dsimp only at *
 have HN4 := hid (fun (K : Nat → Prop) g w (h : NR K w g s3) => num_any g s3 w h (by omega))
 have hl4 := Num.numP_len s3
 generalize Num.numP s3 = t at *
 obtain ⟨s4, n4⟩ := t
 dsimp only at *
 rw [show cfg4 [(n1 : Int), (n2 : Int), (n3 : Int), (n4 : Int)] = ((n1 : Int), (n2 : Int), (n3 : Int), (n4 : Int)) from rfl] at HDY
 have HPT := hid (fun K B p g w h => spartR_any K B p g ⟨s4, false⟩ w h (by show s4.l.length ≤ 1000000; omega))
 have hpl : (partP ⟨s4, false⟩).2.length ≤ 1000000 := Nat.le_trans (partP_small _) (by show s4.l.length ≤ 1000000; omega)
 have hps : (partP ⟨s4, false⟩).1.s.l.length ≤ 1000000 := Nat.le_trans (Nat.le_trans (Num.bytesP_len _ _) (Num.numP_len _)) (by show s4.l.length ≤ 1000000; omega)
 have hgb : (partP ⟨s4, false⟩).1.gb = false := rfl
 generalize partP ⟨s4, false⟩ = pt at *
 obtain ⟨⟨s5, gb5⟩, bs⟩ := pt
 dsimp only at *
 subst hgb
 have HL5 := hid hps
 have HGG := hid (fun v w h => gGetS_any v bs w h hpl)
 rw [show gerr (getP bs) = if (getP bs).2 = true then 0 else 170 from rfl] at HGG
 have hgr : (getP bs).2 = false → gres (getP bs) = ([], 0) := fun h => by unfold gres; rw [h]; rfl
 have HGR := hid hgr
 generalize gres (getP bs) = gg at *
 generalize (getP bs).2 = gok at *
 obtain ⟨A, c, rfl⟩ := hv.form
 clear hv hl hx0 hl1 hl2 hl3 hl4 hpl hps hgr
 go_enter Tryz.func13, Tryz.ntmps13
 go_upto_region 1 with fail
 obtain ⟨rs, hrs⟩ : ∃ rs, rs = w.heap.size := ⟨_, rfl⟩
 rw [← hrs] at HRS0 ⊢
 have HRSE := hid hrs
 clear hrs
 generalize w.alloc (scCs (.int .i64 0) (.int .i64 0) (.int .i64 0) (.int .i64 0) (.slice none 0 0) 0 (.slice none 0 0) (.slice none 0 0)) = w0 at *
 go_wp2_with fail
 refine HF.out.mono ?_
 rintro e w1 ⟨g, rfl, hnr, he1, hg⟩
 have hal2 := (Ext.refl w1).alloc (.cells #[.pointer (some ⟨g, 0, none⟩), .bool false] 85)
 have hsz2 : (w1.alloc (.cells #[.pointer (some ⟨g, 0, none⟩), .bool false] 85)).heap.size = w1.heap.size + 1 := by simp
 have hal3 := (Ext.refl (w1.alloc (.cells #[.pointer (some ⟨g, 0, none⟩), .bool false] 85))).alloc (.cells #[.pointer (some ⟨w1.heap.size, 0, none⟩)] 81)
 have HQ3 := hid (Blk.new (w1.alloc (.cells #[.pointer (some ⟨g, 0, none⟩), .bool false] 85)) 81 #[.pointer (some ⟨w1.heap.size, 0, none⟩)])
 rw [hsz2] at HQ3
 have hgl := hnr.lt
 have HG3 := hid (show SRd (fun k => k < w1.heap.size) (w1.heap.size + 1) w1.heap.size g ((w1.alloc (.cells #[.pointer (some ⟨g, 0, none⟩), .bool false] 85)).alloc (.cells #[.pointer (some ⟨w1.heap.size, 0, none⟩)] 81)) ⟨⟨b, false⟩, false⟩ from
  ⟨(Blk.new w1 _ _).ext hal3, Rdr.ext hnr (hal2.trans hal3), by omega, by simp, by omega, by omega, fun b hb => by have hb : b < w1.heap.size := hb; omega⟩)
 have HRS3 := hid (((HRS0.out.ext he1).ext hal2).ext hal3)
 have HX3 := hid (((HX0.out.trans he1).trans hal2).trans hal3)
 have HNE := hid (show rs < g ∧ g < w1.heap.size ∧ w.heap.size = rs from by have h1 := HRS0.out.b.lt; have h2 := HRSE.out; omega)
 have HSZ3 := hid (show ((w1.alloc (.cells #[.pointer (some ⟨g, 0, none⟩), .bool false] 85)).alloc (.cells #[.pointer (some ⟨w1.heap.size, 0, none⟩)] 81)).heap.size = w1.heap.size + 2 from by simp)
 clear hnr he1 hg hal2 hal3 hsz2 hgl
 go_upto_region 2 with fail
 obtain ⟨p, hp⟩ : ∃ p, p = w1.heap.size := ⟨_, rfl⟩
 rw [← hp] at HQ3 HG3 HNE HSZ3 HRS3 HX3 ⊢
 obtain ⟨K, hK⟩ : ∃ K : Nat → Prop, K = (fun k => k < p) := ⟨_, rfl⟩
 rw [← hK] at HG3
 clear hK hp
 obtain ⟨B, hB⟩ : ∃ B, B = p + 1 := ⟨_, rfl⟩
 rw [← hB] at HG3
 have HBP := hid hB
 clear hB
 generalize (w1.alloc (.cells #[.pointer (some ⟨g, 0, none⟩), .bool false] 85)).alloc (.cells #[.pointer (some ⟨p, 0, none⟩)] 81) = w3 at *
 have HM1 := hid (fun w h => HN1.out K g w h)
 have HM2 := hid (fun w h => HN2.out K g w h)
 have HM3 := hid (fun w h => HN3.out K g w h)
 have HM4 := hid (fun w h => HN4.out K g w h)
 clear HN1 HN2 HN3 HN4
 refine wp_region_tailY 23 [16, 21, 26, 31] [] Ext (ExtQ (fun k => k = g)) (fun w' => SRd K B p g w' ⟨⟨b, false⟩, false⟩) (by kernel_rfl) (by kernel_rfl) (by kernel_rfl) (by kernel_rfl) (by kernel_rfl) (by kernel_rfl) (by kernel_rfl) (by rfl) (by rfl) (by kernel_rfl) (by kernel_rfl) (by kernel_rfl) (fun _ _ _ x y => x.trans y) (ExtQ.refl _) (fun _ _ x => ExtQ.of x) (Ext.refl _).drew (fun _ _ x y => x.ext y) (HG3.out) ?_
 refine wpY_val rfl rfl (runsX rfl) Ext.refl rfl ?_; apply Exists.intro; refine ⟨?_, ?_⟩
 · intro a w' hR h1
   have e1 : _ = _ := h1
   have hl1 := (HQ3.out.extQ hR (fun e => by have := HNE.out; omega)).cell 0
   go_simp
   rfl
 repeat (first | (refine wpY_move0 rfl rfl (runsX rfl) Ext.refl rfl rfl rfl ?_; apply Exists.intro; refine ⟨?_, ?_⟩; · (go_simp; rfl)) | (refine wpY_move rfl rfl (runsX rfl) Ext.refl rfl rfl rfl (fun _ _ _ h _ => h) ?_) | (refine wpY_val rfl rfl (runsX rfl) Ext.refl rfl ?_; apply Exists.intro; refine ⟨?_, ?_⟩; · (intro a w' hR; (try (intro h1; try have e1 : _ = _ := h1)); (try (intro h2; try have e2 : _ = _ := h2)); (try (intro h3; try have e3 : _ = _ := h3)); go_simp; rfl)) | (refine wpY_skip rfl rfl (by first | exact .inl rfl | exact .inr rfl) ?_))
 refine wpY_val rfl rfl (runsX rfl) Ext.refl rfl ?_; apply Exists.intro; refine ⟨?_, ?_⟩
 · intro a w' hR h1
   have e1 : _ = _ := h1
   have hl1 := (HG3.out.blk.extQ hR HG3.out.ne).cell 0
   go_simp
   rfl
 refine wpY_eff (fun v _ => v = .int .i64 (n1 : Nat)) (fun w' => SRd K B p g w' ⟨s1, false⟩) rfl (runsX rfl) rfl (by first | exact mono_eq | exact (fun _ _ _ h k => Rd.ext h k) | exact (fun _ _ _ h k => RB.ext h k) | exact (fun _ _ _ h k => OB.ext h k) | exact (fun _ _ _ h k => RB.extS h k) | exact (fun _ _ _ h k => Rd.ext h (GrownW.ext k)) | exact (fun _ _ _ h k => RP.ext h k) | exact (fun _ _ _ h k => OP.ext h k) | exact (fun _ _ _ h k => Rd.extV h k) | exact (fun _ _ _ h k => RB.extV h k) | exact (fun _ _ _ h k => E0.ext h k) | exact (fun _ _ _ h k => O0.ext h k) | exact (fun _ _ _ h k => RE.ext h k) | exact (fun _ _ _ h k => RE.extD h k) | exact (fun _ _ _ h _ => h) | exact (fun _ _ _ ⟨n, h1, h2⟩ k => ⟨n, h1, k.st _ _ h2⟩)) (fun _ _ x y => x.ext y) ?_ ?_
 · intro a w' hR hS h1 K hK
   have e1 : _ = _ := h1
   go_simp
   refine (HM1.out w' hS.nr).mono ?_
   rintro e w2 ⟨rfl, hr3, he3⟩
   exact hK _ _ (ExtQ.extG he3 rfl) (hS.num hr3 he3) rfl
 refine wpY_val rfl rfl (runsX rfl) Ext.refl rfl ?_; apply Exists.intro; refine ⟨?_, ?_⟩
 · intro a w' hR h1
   have e1 : _ = _ := h1
   have hl1 := (HQ3.out.extQ hR (fun e => by have := HNE.out; omega)).cell 0
   go_simp
   rfl
 repeat (first | (refine wpY_move0 rfl rfl (runsX rfl) Ext.refl rfl rfl rfl ?_; apply Exists.intro; refine ⟨?_, ?_⟩; · (go_simp; rfl)) | (refine wpY_move rfl rfl (runsX rfl) Ext.refl rfl rfl rfl (fun _ _ _ h _ => h) ?_) | (refine wpY_val rfl rfl (runsX rfl) Ext.refl rfl ?_; apply Exists.intro; refine ⟨?_, ?_⟩; · (intro a w' hR; (try (intro h1; try have e1 : _ = _ := h1)); (try (intro h2; try have e2 : _ = _ := h2)); (try (intro h3; try have e3 : _ = _ := h3)); go_simp; rfl)) | (refine wpY_skip rfl rfl (by first | exact .inl rfl | exact .inr rfl) ?_))
 refine wpY_val rfl rfl (runsX rfl) Ext.refl rfl ?_; apply Exists.intro; refine ⟨?_, ?_⟩
 · intro a w' hR h1
   have e1 : _ = _ := h1
   have hl1 := (HG3.out.blk.extQ hR HG3.out.ne).cell 0
   go_simp
   rfl
 refine wpY_eff (fun v _ => v = .int .i64 (n2 : Nat)) (fun w' => SRd K B p g w' ⟨s2, false⟩) rfl (runsX rfl) rfl (by first | exact mono_eq | exact (fun _ _ _ h k => Rd.ext h k) | exact (fun _ _ _ h k => RB.ext h k) | exact (fun _ _ _ h k => OB.ext h k) | exact (fun _ _ _ h k => RB.extS h k) | exact (fun _ _ _ h k => Rd.ext h (GrownW.ext k)) | exact (fun _ _ _ h k => RP.ext h k) | exact (fun _ _ _ h k => OP.ext h k) | exact (fun _ _ _ h k => Rd.extV h k) | exact (fun _ _ _ h k => RB.extV h k) | exact (fun _ _ _ h k => E0.ext h k) | exact (fun _ _ _ h k => O0.ext h k) | exact (fun _ _ _ h k => RE.ext h k) | exact (fun _ _ _ h k => RE.extD h k) | exact (fun _ _ _ h _ => h) | exact (fun _ _ _ ⟨n, h1, h2⟩ k => ⟨n, h1, k.st _ _ h2⟩)) (fun _ _ x y => x.ext y) ?_ ?_
 · intro a w' hR hS h1 K hK
   have e1 : _ = _ := h1
   go_simp
   refine (HM2.out w' hS.nr).mono ?_
   rintro e w2 ⟨rfl, hr3, he3⟩
   exact hK _ _ (ExtQ.extG he3 rfl) (hS.num hr3 he3) rfl
 refine wpY_val rfl rfl (runsX rfl) Ext.refl rfl ?_; apply Exists.intro; refine ⟨?_, ?_⟩
 · intro a w' hR h1
   have e1 : _ = _ := h1
   have hl1 := (HQ3.out.extQ hR (fun e => by have := HNE.out; omega)).cell 0
   go_simp
   rfl
 repeat (first | (refine wpY_move0 rfl rfl (runsX rfl) Ext.refl rfl rfl rfl ?_; apply Exists.intro; refine ⟨?_, ?_⟩; · (go_simp; rfl)) | (refine wpY_move rfl rfl (runsX rfl) Ext.refl rfl rfl rfl (fun _ _ _ h _ => h) ?_) | (refine wpY_val rfl rfl (runsX rfl) Ext.refl rfl ?_; apply Exists.intro; refine ⟨?_, ?_⟩; · (intro a w' hR; (try (intro h1; try have e1 : _ = _ := h1)); (try (intro h2; try have e2 : _ = _ := h2)); (try (intro h3; try have e3 : _ = _ := h3)); go_simp; rfl)) | (refine wpY_skip rfl rfl (by first | exact .inl rfl | exact .inr rfl) ?_))
 refine wpY_val rfl rfl (runsX rfl) Ext.refl rfl ?_; apply Exists.intro; refine ⟨?_, ?_⟩
 · intro a w' hR h1
   have e1 : _ = _ := h1
   have hl1 := (HG3.out.blk.extQ hR HG3.out.ne).cell 0
   go_simp
   rfl
 refine wpY_eff (fun v _ => v = .int .i64 (n3 : Nat)) (fun w' => SRd K B p g w' ⟨s3, false⟩) rfl (runsX rfl) rfl (by first | exact mono_eq | exact (fun _ _ _ h k => Rd.ext h k) | exact (fun _ _ _ h k => RB.ext h k) | exact (fun _ _ _ h k => OB.ext h k) | exact (fun _ _ _ h k => RB.extS h k) | exact (fun _ _ _ h k => Rd.ext h (GrownW.ext k)) | exact (fun _ _ _ h k => RP.ext h k) | exact (fun _ _ _ h k => OP.ext h k) | exact (fun _ _ _ h k => Rd.extV h k) | exact (fun _ _ _ h k => RB.extV h k) | exact (fun _ _ _ h k => E0.ext h k) | exact (fun _ _ _ h k => O0.ext h k) | exact (fun _ _ _ h k => RE.ext h k) | exact (fun _ _ _ h k => RE.extD h k) | exact (fun _ _ _ h _ => h) | exact (fun _ _ _ ⟨n, h1, h2⟩ k => ⟨n, h1, k.st _ _ h2⟩)) (fun _ _ x y => x.ext y) ?_ ?_
 · intro a w' hR hS h1 K hK
   have e1 : _ = _ := h1
   go_simp
   refine (HM3.out w' hS.nr).mono ?_
   rintro e w2 ⟨rfl, hr3, he3⟩
   exact hK _ _ (ExtQ.extG he3 rfl) (hS.num hr3 he3) rfl
 refine wpY_val rfl rfl (runsX rfl) Ext.refl rfl ?_; apply Exists.intro; refine ⟨?_, ?_⟩
 · intro a w' hR h1
   have e1 : _ = _ := h1
   have hl1 := (HQ3.out.extQ hR (fun e => by have := HNE.out; omega)).cell 0
   go_simp
   rfl
 repeat (first | (refine wpY_move0 rfl rfl (runsX rfl) Ext.refl rfl rfl rfl ?_; apply Exists.intro; refine ⟨?_, ?_⟩; · (go_simp; rfl)) | (refine wpY_move rfl rfl (runsX rfl) Ext.refl rfl rfl rfl (fun _ _ _ h _ => h) ?_) | (refine wpY_val rfl rfl (runsX rfl) Ext.refl rfl ?_; apply Exists.intro; refine ⟨?_, ?_⟩; · (intro a w' hR; (try (intro h1; try have e1 : _ = _ := h1)); (try (intro h2; try have e2 : _ = _ := h2)); (try (intro h3; try have e3 : _ = _ := h3)); go_simp; rfl)) | (refine wpY_skip rfl rfl (by first | exact .inl rfl | exact .inr rfl) ?_))
 refine wpY_val rfl rfl (runsX rfl) Ext.refl rfl ?_; apply Exists.intro; refine ⟨?_, ?_⟩
 · intro a w' hR h1
   have e1 : _ = _ := h1
   have hl1 := (HG3.out.blk.extQ hR HG3.out.ne).cell 0
   go_simp
   rfl
 refine wpY_eff (fun v _ => v = .int .i64 (n4 : Nat)) (fun w' => SRd K B p g w' ⟨s4, false⟩) rfl (runsX rfl) rfl (by first | exact mono_eq | exact (fun _ _ _ h k => Rd.ext h k) | exact (fun _ _ _ h k => RB.ext h k) | exact (fun _ _ _ h k => OB.ext h k) | exact (fun _ _ _ h k => RB.extS h k) | exact (fun _ _ _ h k => Rd.ext h (GrownW.ext k)) | exact (fun _ _ _ h k => RP.ext h k) | exact (fun _ _ _ h k => OP.ext h k) | exact (fun _ _ _ h k => Rd.extV h k) | exact (fun _ _ _ h k => RB.extV h k) | exact (fun _ _ _ h k => E0.ext h k) | exact (fun _ _ _ h k => O0.ext h k) | exact (fun _ _ _ h k => RE.ext h k) | exact (fun _ _ _ h k => RE.extD h k) | exact (fun _ _ _ h _ => h) | exact (fun _ _ _ ⟨n, h1, h2⟩ k => ⟨n, h1, k.st _ _ h2⟩)) (fun _ _ x y => x.ext y) ?_ ?_
 · intro a w' hR hS h1 K hK
   have e1 : _ = _ := h1
   go_simp
   refine (HM4.out w' hS.nr).mono ?_
   rintro e w2 ⟨rfl, hr3, he3⟩
   exact hK _ _ (ExtQ.extG he3 rfl) (hS.num hr3 he3) rfl
 refine wpY_val rfl rfl (runsX rfl) Ext.refl rfl ?_; apply Exists.intro; refine ⟨?_, ?_⟩
 · intro a w' hR h1 h2 h3 h4
   have e1 : _ = _ := h1
   have e2 : _ = _ := h2
   have e3 : _ = _ := h3
   have e4 : _ = _ := h4
   have q1 := e1; rw [Array.getD_eq_getD_getElem?] at q1
   have q2 := e2; rw [Array.getD_eq_getD_getElem?] at q2
   have q3 := e3; rw [Array.getD_eq_getD_getElem?] at q3
   have q4 := e4; rw [Array.getD_eq_getD_getElem?] at q4
   go_simp
   rfl
 refine wpY_val rfl rfl (runsX rfl) Ext.refl rfl ?_; apply Exists.intro; refine ⟨?_, ?_⟩
 · intro a w' hR h1
   have e1 : _ = _ := h1
   have q1 := e1; rw [Array.getD_eq_getD_getElem?] at q1
   go_simp
   rfl
 refine wpY_call (fun v w' => ∃ n, v = .pointer (some ⟨n, 0, none⟩) ∧ w3.heap.size ≤ n ∧ Bx8 w' n 30 (.int .i64 0) (.int .i64 0) (.int .i64 0) (.int .i64 0) (.slice none 0 0) (.int .i64 0) (.slice none 0 0) (.slice none 0 0)) rfl rfl (runsX rfl) rfl (fun _ _ _ ⟨n, h1, h2, h3⟩ k => ⟨n, h1, h2, Bx8.extQ h3 k (fun e => by have h4 := HNE.out; have h5 := HSZ3.out; omega)⟩) ?_ ?_
 · intro a w' hR K hK
   go_simp
   exact hK _ _ ((Ext.refl _).alloc _) ⟨_, rfl, hR.size, Bx8.new _ _ _ _ _ _ _ _ _ _⟩
 refine wpY_done ?_
 intro wz hx hS
 iterate 22 (rintro _ rfl)
 rintro v5 h5
 dsimp only [FinV]
 go_simp
 obtain ⟨o, rfl, ho, hbo⟩ := h5
 have HG4 := hid (show SRd K B p g wz ⟨s4, false⟩ from hS)
 have HX4 := hid (show ExtQ (fun k => k = g) w3 wz from hx)
 have HON := hid (show p + 1 < o ∧ o < wz.heap.size from ⟨by have := HSZ3.out; omega, hbo.b.lt⟩)
 have f0 : wz.frozen? ⟨o, 0, none⟩ = false := hbo.b.frozen 0
 have f1 : wz.frozen? ⟨o, 1, none⟩ = false := hbo.b.frozen 1
 have f2 : wz.frozen? ⟨o, 2, none⟩ = false := hbo.b.frozen 2
 have f3 : wz.frozen? ⟨o, 3, none⟩ = false := hbo.b.frozen 3
 have f4 : wz.frozen? ⟨o, 4, none⟩ = false := hbo.b.frozen 4
 have f5 : wz.frozen? ⟨o, 5, none⟩ = false := hbo.b.frozen 5
 have f6 : wz.frozen? ⟨o, 6, none⟩ = false := hbo.b.frozen 6
 have f7 : wz.frozen? ⟨o, 7, none⟩ = false := hbo.b.frozen 7
 obtain ⟨b0, b1, b2, b3, b4, b5, b6, b7⟩ := hbo.at_
 have hst := @extQ_set8 (.int .i64 (n1 : Nat)) (.int .i64 (n2 : Nat)) (.int .i64 (n3 : Nat)) (.int .i64 (n4 : Nat)) (.slice none 0 0) (.int .i64 0) (.slice none 0 0) (.slice none 0 0) wz o
 have HO5 := hid (@Bx8.set8 wz o 30 (.int .i64 0) (.int .i64 0) (.int .i64 0) (.int .i64 0) (.slice none 0 0) (.int .i64 0) (.slice none 0 0) (.slice none 0 0) (.int .i64 (n1 : Nat)) (.int .i64 (n2 : Nat)) (.int .i64 (n3 : Nat)) (.int .i64 (n4 : Nat)) (.slice none 0 0) (.int .i64 0) (.slice none 0 0) (.slice none 0 0) hbo)
 have HG5 := hid (HG4.out.extQ (hst.mono fun i hi => by have h1 := HON.out; have h2 := HBP.out; have hi : i = o := hi; show B ≤ i; omega))
 have HX5 := hid ((HX4.out.mono fun i hi => Or.inl hi).trans (hst.mono fun i (hi : i = o) => show i = g ∨ i = o from .inr hi))
 clear ho hbo hx hS hst
 simp only [thenTail, List.drop_succ_cons, List.drop_zero]
 go_upto_region 3 with fail
 clear b0 b1 b2 b3 b4 b5 b6 b7 f0 f1 f2 f3 f4 f5 f6 f7
 generalize (((((((wz.setCell ⟨o, 0, none⟩ (.int .i64 (n1 : Nat))).setCell ⟨o, 1, none⟩ (.int .i64 (n2 : Nat))).setCell ⟨o, 2, none⟩ (.int .i64 (n3 : Nat))).setCell ⟨o, 3, none⟩ (.int .i64 (n4 : Nat))).setCell ⟨o, 4, none⟩ (.slice none 0 0)).setCell ⟨o, 5, none⟩ (.int .i64 0)).setCell ⟨o, 6, none⟩ (.slice none 0 0)).setCell ⟨o, 7, none⟩ (.slice none 0 0) = w5 at *
 have HQ5 := hid (HQ3.out.extQ HX5.out (fun e => by have h1 := HNE.out; have h2 := HON.out; omega))
 have HRS5 := hid (HRS3.out.extQ HX5.out (fun e => by have h1 := HNE.out; have h2 := HON.out; omega))
 have HE5 := hid (HX3.out.andQ HX5.out (fun k hk => by have h1 := HNE.out; have h2 := HON.out; omega))
 have c0 : w5.cell? ⟨p + 1, 0, none⟩ = some (.pointer (some ⟨p, 0, none⟩)) := HQ5.out.cell 0
 go_wp2_with fail
 refine (HPT.out _ _ _ _ _ HG5.out).mono ?_
 rintro e w6 ⟨v6, rfl, ho6, hg6, hx6⟩
 have HG6 := hid hg6
 have HGC := hid (HGG.out v6 w6 ho6.rb)
 have HO6 := hid (HO5.out.extQ hx6 (fun e => by have h1 := HNE.out; have h2 := HON.out; omega))
 have HQ6 := hid (HQ5.out.extQ hx6 (fun e => by have h1 := HNE.out; omega))
 have HRS6 := hid (HRS5.out.extQ hx6 (fun e => by have h1 := HNE.out; omega))
 have HE6 := hid (HE5.out.andQ hx6 (fun k hk => by have h1 := HNE.out; omega))
 have HON6 := hid (show o < w6.heap.size from HO6.out.b.lt)
 obtain ⟨A6, c6, rfl⟩ := ho6.form
 clear ho6 hg6 hx6 c0
 go_wp2_with fail
 refine HGC.out.mono ?_
 rintro e w7 ⟨u, rfl, hn7, he7⟩
 obtain ⟨gl, gout⟩ := gg
 dsimp only at hn7 ⊢
 obtain ⟨AU, cU, rfl⟩ := (hn7 w7 (ExtQ.refl _ _)).form
 have HN7 := hid hn7
 have hal := (Ext.refl w7).alloc (gCs (.slice AU gl.length cU) gout)
 have HB8 := hid (Blk.new w7 26 #[.slice AU gl.length cU, .int .i64 gout])
 have HG8 := hid ((HG6.out.ext he7).ext hal)
 have HO8 := hid ((HO6.out.ext he7).ext hal)
 have HQ8 := hid ((HQ6.out.ext he7).ext hal)
 have HRS8 := hid ((HRS6.out.ext he7).ext hal)
 have HE8 := hid ((HE6.out.trans he7).trans hal)
 have HX8 := hid (show ExtQ (fun k => k < w6.heap.size) w7 (w7.alloc (gCs (.slice AU gl.length cU) gout)) from ExtQ.of hal)
 have HSZ8 := hid (show w6.heap.size ≤ w7.heap.size from he7.size)
 clear hn7 he7 hal
 go_upto_region 4 with fail
 obtain ⟨gb, hgb⟩ : ∃ gb, gb = w7.heap.size := ⟨_, rfl⟩
 rw [← hgb] at HB8 ⊢
 have HGB := hid hgb
 clear hgb
 generalize w7.alloc (gCs (.slice AU gl.length cU) gout) = w8 at *
 have m0 : w8.cell? ⟨gb, 0, none⟩ = some (.slice AU gl.length cU) := HB8.out.cell 0
 have m1 : w8.cell? ⟨gb, 1, none⟩ = some (.int .i64 gout) := HB8.out.cell 1
 have f4 : w8.frozen? ⟨o, 4, none⟩ = false := HO8.out.b.frozen 4
 have f5 : w8.frozen? ⟨o, 5, none⟩ = false := HO8.out.b.frozen 5
 obtain ⟨b0, b1, b2, b3, b4, b5, b6, b7⟩ := HO8.out.at_
 go_upto_region 5 with fail
 clear b0 b1 b2 b3 b4 b5 b6 b7 f4 f5 m0 m1
 have hst : ExtQ (fun k => k = o) w8 ((w8.setCell ⟨o, 4, none⟩ (.slice AU gl.length cU)).setCell ⟨o, 5, none⟩ (.int .i64 gout)) := ExtQ.setCell (Q := fun k => k = o) (ExtQ.setCell (Q := fun k => k = o) (ExtQ.refl _ _) (p := ⟨o, 4, none⟩) rfl _) (p := ⟨o, 5, none⟩) rfl _
 have HO9 := hid (HO8.out.set_45 (.slice AU gl.length cU) (.int .i64 gout))
 have HG9 := hid (HG8.out.extQ (hst.mono fun i hi => by have h1 := HON.out; have h2 := HBP.out; have hi : i = o := hi; show B ≤ i; omega))
 have HQ9 := hid (HQ8.out.extQ hst (fun (e : p + 1 = o) => by have := HON.out; omega))
 have HRS9 := hid (HRS8.out.extQ hst (fun (e : rs = o) => by have := HON.out; have := HNE.out; omega))
 have HE9 := hid (HE8.out.andQ hst (fun k (hk : k = o) => by have := HON.out; have := HNE.out; omega))
 have HX9 := hid (HX8.out.trans (hst.mono fun i (hi : i = o) => show i < w6.heap.size from by have := HON6.out; omega))
 clear hst
 generalize (w8.setCell ⟨o, 4, none⟩ (.slice AU gl.length cU)).setCell ⟨o, 5, none⟩ (.int .i64 gout) = w9 at *
 have HPB := hid (show ∀ b, SRd K B p g (w9.setCell ⟨p, 1, none⟩ (.bool b)) ⟨s5, b⟩ from fun b => by
  have h := HG9.out
  exact ⟨by simpa using h.blk.set_ 1 (.bool b), h.nr.kept fun k hk hor => (Below.heap_setCell w9 ⟨p, 1, none⟩ (.bool b) k (fun q => by
   have q : k = p := q
   subst q
   rcases hor with hor | hor
   · exact h.kp hor
   · exact h.ne hor)), h.ne, h.kp, h.lp, h.lg, h.lk⟩)
 have HPX := hid (show ∀ b, ExtQ (fun k => k = p) w9 (w9.setCell ⟨p, 1, none⟩ (.bool b)) from fun b => ExtQ.setCell (Q := fun k => k = p) (ExtQ.refl _ _) (p := ⟨p, 1, none⟩) rfl _)
 have c0 : w9.cell? ⟨p + 1, 0, none⟩ = some (.pointer (some ⟨p, 0, none⟩)) := HQ9.out.cell 0
 obtain ⟨a0, a1, af1⟩ := HG9.out.at_
 have HQA := hid (fun b => HQ9.out.extQ (HPX.out b) (fun (e : p + 1 = p) => by omega))
 have HRSA := hid (fun b => HRS9.out.extQ (HPX.out b) (fun (e : rs = p) => by have := HNE.out; omega))
 have HEA := hid (fun b => HE9.out.andQ (HPX.out b) (fun k (hk : k = p) => by have := HNE.out; omega))
 have HOA := hid (fun b => HO9.out.extQ (HPX.out b) (fun (e : o = p) => by have := HON.out; omega))
 have HXA := hid (fun b => HX9.out.trans ((HPX.out b).mono fun i (hi : i = p) => show i < w6.heap.size from by have := HON6.out; have := HON.out; omega))
 cases gok with
 | false =>
  have HR0 := hid (HDN.out rfl)
  have hgb := HPB.out true
  have hqa := HQA.out true
  have HRSB := hid (HRSA.out true)
  have HEB := hid (HEA.out true)
  go_upto_region 6 with fail
  generalize w9.setCell ⟨p, 1, none⟩ (.bool true) = wA at *
  clear c0 a0 a1 af1
  have c0 : wA.cell? ⟨p + 1, 0, none⟩ = some (.pointer (some ⟨p, 0, none⟩)) := hqa.cell 0
  obtain ⟨a0, a1, af1⟩ := hgb.at_
  dsimp only at a1
  clear hgb hqa
  have hbz := HRSB.out
  have hst := @extQ_set8 (.int .i64 0) (.int .i64 0) (.int .i64 0) (.int .i64 0) (.slice none 0 0) (.int .i64 0) (.slice none 0 0) (.slice none 0 0) wA rs
  have HZB := hid (@Bx8.set8 wA rs 30 (.int .i64 0) (.int .i64 0) (.int .i64 0) (.int .i64 0) (.slice none 0 0) (.int .i64 0) (.slice none 0 0) (.slice none 0 0) (.int .i64 0) (.int .i64 0) (.int .i64 0) (.int .i64 0) (.slice none 0 0) (.int .i64 0) (.slice none 0 0) (.slice none 0 0) hbz)
  have HZX := hid ((HEB.out).andQ hst (fun k (hk : k = rs) => by have := HNE.out; omega))
  have f0 : wA.frozen? ⟨rs, 0, none⟩ = false := hbz.b.frozen 0
  have f1 : wA.frozen? ⟨rs, 1, none⟩ = false := hbz.b.frozen 1
  have f2 : wA.frozen? ⟨rs, 2, none⟩ = false := hbz.b.frozen 2
  have f3 : wA.frozen? ⟨rs, 3, none⟩ = false := hbz.b.frozen 3
  have f4 : wA.frozen? ⟨rs, 4, none⟩ = false := hbz.b.frozen 4
  have f5 : wA.frozen? ⟨rs, 5, none⟩ = false := hbz.b.frozen 5
  have f6 : wA.frozen? ⟨rs, 6, none⟩ = false := hbz.b.frozen 6
  have f7 : wA.frozen? ⟨rs, 7, none⟩ = false := hbz.b.frozen 7
  obtain ⟨e0, e1, e2, e3, e4, e5, e6, e7⟩ := hbz.at_
  clear hbz hst
  go_wp2
  generalize (((((((wA.setCell ⟨rs, 0, none⟩ (.int .i64 0)).setCell ⟨rs, 1, none⟩ (.int .i64 0)).setCell ⟨rs, 2, none⟩ (.int .i64 0)).setCell ⟨rs, 3, none⟩ (.int .i64 0)).setCell ⟨rs, 4, none⟩ (.slice none 0 0)).setCell ⟨rs, 5, none⟩ (.int .i64 0)).setCell ⟨rs, 6, none⟩ (.slice none 0 0)).setCell ⟨rs, 7, none⟩ (.slice none 0 0) = wy at *
  obtain ⟨y0, y1, y2, y3, y4, y5, y6, y7⟩ := HZB.out.at_
  obtain ⟨hz1, hz2⟩ := (show sres RES = scZ ∧ serr RES = 260 from HR0.out)
  rw [hz1, hz2]
  exact bodyPost_ret (v := .tuple #[scAg scZ (.slice none 0 0) (.slice none 0 0) (.slice none 0 0), .int .i64 260]) (by simp [results, Tryz.results13, go_sem, y0, y1, y2, y3, y4, y5, y6, y7, scZ]) rfl
   ⟨_, _, _, rfl, fun W _ => ⟨NodesR.nil _ _, InsR.nil _, ActsR.nil _⟩, HZX.out⟩
 | true =>
  have HR1 := hid (HDY.out rfl)
  have HGB0 := hid (HPB.out false)
  have HQB := hid (HQA.out false)
  have HRSB := hid (HRSA.out false)
  have HEB := hid (HEA.out false)
  have HOB := hid (HOA.out false)
  have HXB := hid (HXA.out false)
  go_upto_region 6 with fail
  generalize w9.setCell ⟨p, 1, none⟩ (.bool false) = wA at *
  clear c0 a0 a1 af1
  have c0 : wA.cell? ⟨p + 1, 0, none⟩ = some (.pointer (some ⟨p, 0, none⟩)) := HQB.out.cell 0
  obtain ⟨a0, a1, af1⟩ := HGB0.out.at_
  dsimp only at a1
  have HNG := hid (show o ≠ p ∧ o ≠ g ∧ p + 1 ≠ g ∧ B ≤ o ∧ B ≤ p + 1 ∧ o < wA.heap.size ∧ p + 1 < wA.heap.size ∧ w7.heap.size ≤ wA.heap.size from by
   have h1 := HON.out
   have h2 := HNE.out
   have h3 := HBP.out
   have h4 := HOB.out.b.lt
   have h5 := HQB.out.lt
   have h6 := HXB.out.size
   exact ⟨by omega, by omega, by omega, by omega, by omega, by omega, by omega, by omega⟩)
  have HSM := hid (decSm ((n1 : Int), (n2 : Int), (n3 : Int), (n4 : Int)) (gl, gout) ⟨s5, false⟩ (rowP 16 epP ⟨s5, false⟩).1)
  have HL6 := hid (Nat.le_trans (rowP_len epP_len 16 ⟨s5, false⟩) HL5.out)
  have eg1 : ∀ args w, (callFunc 53 args).run Tryz.prog w = .ok (.enter 53 args) w := enters_of Tryz.func53 (by kernel_rfl) rfl
  have eg2 : ∀ args w, (callFunc 55 args).run Tryz.prog w = .ok (.enter 55 args) w := enters_of Tryz.func55 (by kernel_rfl) rfl
  have HCI := hid (row_any K B p g wA.heap.size (fun i => i = o ∨ wA.heap.size ≤ i) epP 16 53 #[.pointer (some ⟨o, 0, none⟩), .pointer (some ⟨p + 1, 0, none⟩)] eg1 (InsJ p wA.heap.size o (p + 1) n1 n2 n3 n4 (.slice AU gl.length cU) gout (.slice none 0 0))
   (insStep K B p g wA.heap.size o (p + 1) n1 n2 n3 n4 (.slice AU gl.length cU) gout (.slice none 0 0) HNG.out.2.2.2.1 HNG.out.2.2.2.2.1 (by have := HON.out; omega) HNG.out.2.2.2.2.2.1 HNG.out.2.2.2.2.2.2.1)
   (fun acc W W' hj hx => hj.extQ hx (fun e => e.elim HNG.out.1 HNG.out.2.1) (fun e => e.elim (fun e => by omega) HNG.out.2.2.1) (fun i hi => by have h1 := HNG.out; have h2 := HNE.out; rcases hi with hi | hi <;> omega))
   epP_len ⟨s5, false⟩ wA HGB0.out (Nat.le_refl _) HL5.out ⟨HQB.out, Nat.le_refl _, _, HOB.out, OS.nil _ _ _ _ _ _⟩ (by omega))
  have HEG2 := hid eg2
  clear eg1 eg2
  generalize rowP 16 epP ⟨s5, false⟩ = I1 at *
  obtain ⟨SI, IL⟩ := I1
  dsimp only at HCI HSM HL6
  go_wp2_with fail
  refine HCI.out.mono ?_
  rintro e wB ⟨rfl, hgB, ⟨hrB, hcB, iv, hbB, hoB⟩, hxB⟩
  obtain ⟨AI, cI, rfl⟩ := hoB.form
  have HGB1 := hid hgB
  have HQC := hid hrB
  have HOC := hid hbB
  have HIN := hid hoB
  have HXC := hid (show ExtQ (fun k => k < w6.heap.size ∨ w7.heap.size ≤ k) w7 wB from (HXB.out.mono fun i hi => Or.inl hi).trans (hxB.mono fun i hi => by
   have h1 := HON6.out
   have h2 := HON.out
   have h3 := HNE.out
   have h4 := HNG.out
   rcases hi with hi | hi | hi | hi
   · exact .inl (by omega)
   · exact .inl (by omega)
   · exact .inl (by omega)
   · exact .inr (by omega)))
  have HRSC := hid (HRSB.out.extQ hxB (fun e => by have h1 := HNE.out; have h2 := HON.out; have h3 := HNG.out; omega))
  have HEC := hid (HEB.out.andQ hxB (fun k hk => by have h1 := HNE.out; have h2 := HON.out; have h3 := HNG.out; omega))
  have HNB := hid (show wA.heap.size ≤ wB.heap.size from hxB.size)
  have HCA := hid (row_any K B p g wB.heap.size (fun i => i = o ∨ wB.heap.size ≤ i) actP 256 55 #[.pointer (some ⟨o, 0, none⟩), .pointer (some ⟨p + 1, 0, none⟩)] HEG2.out (ActsJ p wB.heap.size o (p + 1) n1 n2 n3 n4 (.slice AU gl.length cU) gout (.slice AI IL.length cI))
   (actsStep K B p g wB.heap.size o (p + 1) n1 n2 n3 n4 (.slice AU gl.length cU) gout (.slice AI IL.length cI) HNG.out.2.2.2.1 HNG.out.2.2.2.2.1 (by have := HON.out; omega) (by have h1 := HNG.out; have h2 := HNB.out; omega) (by have h1 := HNG.out; have h2 := HNB.out; omega))
   (fun acc W W' hj hx => hj.extQ hx (fun e => e.elim HNG.out.1 HNG.out.2.1) (fun e => e.elim (fun e => by omega) HNG.out.2.2.1) (fun i hi => by have h1 := HNG.out; have h2 := HNE.out; have h3 := HNB.out; rcases hi with hi | hi <;> omega))
   actP_len' SI wB HGB1.out (Nat.le_refl _) HL6.out ⟨HQC.out, Nat.le_refl _, _, HOC.out, OS.nil _ _ _ _ _ _⟩ (by omega))
  clear hgB hrB hcB hbB hoB hxB c0 a0 a1 af1
  generalize rowP 256 actP SI = A1 at *
  obtain ⟨⟨sa, gba⟩, AL⟩ := A1
  dsimp only at HCA HSM
  have c0 : wB.cell? ⟨p + 1, 0, none⟩ = some (.pointer (some ⟨p, 0, none⟩)) := HQC.out.cell 0
  go_wp2_with fail
  refine HCA.out.mono ?_
  rintro e wC ⟨rfl, hgC, ⟨hrC, hcC, av, hbC, hoC⟩, hxC⟩
  obtain ⟨AA, cA, rfl⟩ := hoC.form
  have HGC1 := hid hgC
  have HOD := hid hbC
  have HAN := hid hoC
  have HIND := hid (HIN.out.extQ hxC (fun j hj => by
   have h1 := HNG.out
   have h2 := HNE.out
   rcases hj with hj | hj | hj | hj
   · exact .inl (by show j < wA.heap.size; omega)
   · exact .inl (by show j < wA.heap.size; omega)
   · exact .inl (by show j < wA.heap.size; omega)
   · exact .inr hj) (fun g hg e => by have h1 := (HIN.out.lt hg).1; have e : g < wA.heap.size := e; omega))
  have HXD := hid (show ExtQ (fun k => k < w6.heap.size) w7 wC from (HXC.out.trans (hxC.mono fun i hi => by
   have h1 := HON6.out
   have h2 := HON.out
   have h3 := HNE.out
   have h4 := HNG.out
   have h5 := HNB.out
   rcases hi with hi | hi | hi | hi
   · exact .inl (by omega)
   · exact .inl (by omega)
   · exact .inl (by omega)
   · exact .inr (by omega))).mono' fun i hi hq => hq.elim id fun h => by omega)
  have HRSD := hid (HRSC.out.extQ hxC (fun e => by have h1 := HNE.out; have h2 := HON.out; have h3 := HNG.out; have h4 := HNB.out; omega))
  have HED := hid (HEC.out.andQ hxC (fun k hk => by have h1 := HNE.out; have h2 := HON.out; have h3 := HNG.out; have h4 := HNB.out; omega))
  have HND := hid (show wB.heap.size ≤ wC.heap.size from hxC.size)
  have c1 : wC.cell? ⟨p + 1, 0, none⟩ = some (.pointer (some ⟨p, 0, none⟩)) := hrC.cell 0
  obtain ⟨a0, a1, af1⟩ := hgC.at_
  dsimp only at a1
  clear hgC hrC hcC hbC hoC hxC c0
  cases gba with
  | true =>
   have HR2 := hid (show sres RES = scZ ∧ serr RES = 260 from by rw [HR1.out]; exact decA_no1 rfl)
   have hbz := HRSD.out
   have hst := @extQ_set8 (.int .i64 0) (.int .i64 0) (.int .i64 0) (.int .i64 0) (.slice none 0 0) (.int .i64 0) (.slice none 0 0) (.slice none 0 0) wC rs
   have HZB := hid (@Bx8.set8 wC rs 30 (.int .i64 0) (.int .i64 0) (.int .i64 0) (.int .i64 0) (.slice none 0 0) (.int .i64 0) (.slice none 0 0) (.slice none 0 0) (.int .i64 0) (.int .i64 0) (.int .i64 0) (.int .i64 0) (.slice none 0 0) (.int .i64 0) (.slice none 0 0) (.slice none 0 0) hbz)
   have HZX := hid ((HED.out).andQ hst (fun k (hk : k = rs) => by have := HNE.out; omega))
   have f0 : wC.frozen? ⟨rs, 0, none⟩ = false := hbz.b.frozen 0
   have f1 : wC.frozen? ⟨rs, 1, none⟩ = false := hbz.b.frozen 1
   have f2 : wC.frozen? ⟨rs, 2, none⟩ = false := hbz.b.frozen 2
   have f3 : wC.frozen? ⟨rs, 3, none⟩ = false := hbz.b.frozen 3
   have f4 : wC.frozen? ⟨rs, 4, none⟩ = false := hbz.b.frozen 4
   have f5 : wC.frozen? ⟨rs, 5, none⟩ = false := hbz.b.frozen 5
   have f6 : wC.frozen? ⟨rs, 6, none⟩ = false := hbz.b.frozen 6
   have f7 : wC.frozen? ⟨rs, 7, none⟩ = false := hbz.b.frozen 7
   obtain ⟨e0, e1, e2, e3, e4, e5, e6, e7⟩ := hbz.at_
   clear hbz hst
   go_wp2
   generalize (((((((wC.setCell ⟨rs, 0, none⟩ (.int .i64 0)).setCell ⟨rs, 1, none⟩ (.int .i64 0)).setCell ⟨rs, 2, none⟩ (.int .i64 0)).setCell ⟨rs, 3, none⟩ (.int .i64 0)).setCell ⟨rs, 4, none⟩ (.slice none 0 0)).setCell ⟨rs, 5, none⟩ (.int .i64 0)).setCell ⟨rs, 6, none⟩ (.slice none 0 0)).setCell ⟨rs, 7, none⟩ (.slice none 0 0) = wy at *
   obtain ⟨y0, y1, y2, y3, y4, y5, y6, y7⟩ := HZB.out.at_
   obtain ⟨hz1, hz2⟩ := (show sres RES = scZ ∧ serr RES = 260 from HR2.out)
   rw [hz1, hz2]
   exact bodyPost_ret (v := .tuple #[scAg scZ (.slice none 0 0) (.slice none 0 0) (.slice none 0 0), .int .i64 260]) (by simp [results, Tryz.results13, go_sem, y0, y1, y2, y3, y4, y5, y6, y7, scZ]) rfl
    ⟨_, _, _, rfl, fun W _ => ⟨NodesR.nil _ _, InsR.nil _, ActsR.nil _⟩, HZX.out⟩
  | false =>
   have HDO := hid (done_any g sa wC HGC1.out.nr)
   by_cases hd : sa.bad = true ∨ sa.l ≠ []
   · rw [if_pos hd] at HDO
     have HR2 := hid (show sres RES = scZ ∧ serr RES = 260 from by rw [HR1.out]; exact decA_no2 hd)
     clear hd
     go_upto_region 10 with (refine HDO.out.mono ?_; rintro e wQ ⟨rfl, hwq⟩; subst hwq)
     rename World => wR
     have hbz := HRSD.out
     have hst := @extQ_set8 (.int .i64 0) (.int .i64 0) (.int .i64 0) (.int .i64 0) (.slice none 0 0) (.int .i64 0) (.slice none 0 0) (.slice none 0 0) wR rs
     have HZB := hid (@Bx8.set8 wR rs 30 (.int .i64 0) (.int .i64 0) (.int .i64 0) (.int .i64 0) (.slice none 0 0) (.int .i64 0) (.slice none 0 0) (.slice none 0 0) (.int .i64 0) (.int .i64 0) (.int .i64 0) (.int .i64 0) (.slice none 0 0) (.int .i64 0) (.slice none 0 0) (.slice none 0 0) hbz)
     have HZX := hid ((HED.out).andQ hst (fun k (hk : k = rs) => by have := HNE.out; omega))
     have f0 : wR.frozen? ⟨rs, 0, none⟩ = false := hbz.b.frozen 0
     have f1 : wR.frozen? ⟨rs, 1, none⟩ = false := hbz.b.frozen 1
     have f2 : wR.frozen? ⟨rs, 2, none⟩ = false := hbz.b.frozen 2
     have f3 : wR.frozen? ⟨rs, 3, none⟩ = false := hbz.b.frozen 3
     have f4 : wR.frozen? ⟨rs, 4, none⟩ = false := hbz.b.frozen 4
     have f5 : wR.frozen? ⟨rs, 5, none⟩ = false := hbz.b.frozen 5
     have f6 : wR.frozen? ⟨rs, 6, none⟩ = false := hbz.b.frozen 6
     have f7 : wR.frozen? ⟨rs, 7, none⟩ = false := hbz.b.frozen 7
     obtain ⟨e0, e1, e2, e3, e4, e5, e6, e7⟩ := hbz.at_
     clear hbz hst
     go_wp2
     generalize (((((((wR.setCell ⟨rs, 0, none⟩ (.int .i64 0)).setCell ⟨rs, 1, none⟩ (.int .i64 0)).setCell ⟨rs, 2, none⟩ (.int .i64 0)).setCell ⟨rs, 3, none⟩ (.int .i64 0)).setCell ⟨rs, 4, none⟩ (.slice none 0 0)).setCell ⟨rs, 5, none⟩ (.int .i64 0)).setCell ⟨rs, 6, none⟩ (.slice none 0 0)).setCell ⟨rs, 7, none⟩ (.slice none 0 0) = wy at *
     obtain ⟨y0, y1, y2, y3, y4, y5, y6, y7⟩ := HZB.out.at_
     obtain ⟨hz1, hz2⟩ := (show sres RES = scZ ∧ serr RES = 260 from HR2.out)
     rw [hz1, hz2]
     exact bodyPost_ret (v := .tuple #[scAg scZ (.slice none 0 0) (.slice none 0 0) (.slice none 0 0), .int .i64 260]) (by simp [results, Tryz.results13, go_sem, y0, y1, y2, y3, y4, y5, y6, y7, scZ]) rfl
      ⟨_, _, _, rfl, fun W _ => ⟨NodesR.nil _ _, InsR.nil _, ActsR.nil _⟩, HZX.out⟩
   · rw [if_neg hd] at HDO
     have HD2 := hid hd
     clear hd
     have HSCR := hid (show ∀ W, ExtQ (fun k => k = rs ∨ k < w.heap.size) wC W → ScR 2 W (.slice AU gl.length cU) (.slice AI IL.length cI) (.slice AA AL.length cA) ⟨((n1 : Int), (n2 : Int), (n3 : Int), (n4 : Int)), (gl, gout), IL, AL⟩ from fun W hW => by
      refine ⟨HN7.out W (HXD.out.trans (hW.mono fun k (hk : k = rs ∨ k < w.heap.size) => show k < w6.heap.size from by have h1 := HNE.out; have h2 := HON.out; have h3 := HON6.out; omega)), InsR.of_rs (HIND.out.extQ hW (fun j (hj : j = rs ∨ j < w.heap.size) => .inl (by have h1 := HNE.out; have h2 := HNG.out; show j < wA.heap.size; omega)) (fun g hg e => by have h1 := (HIND.out.lt hg).1; have e : g < wA.heap.size := e; omega)).rs, ActsR.of_rs (HAN.out.extQ hW (fun j (hj : j = rs ∨ j < w.heap.size) => .inl (by have h1 := HNE.out; have h2 := HNG.out; have h3 := HNB.out; show j < wB.heap.size; omega)) (fun g hg e => by have h1 := (HAN.out.lt hg).1; have e : g < wB.heap.size := e; omega)).rs⟩)
     have HCK := hid (sCheck_any 2 _ _ _ _ wC (HSCR.out wC (ExtQ.refl _ _)) HSM.out)
     obtain ⟨b0, b1, b2, b3, b4, b5, b6, b7⟩ := HOD.out.at_
     go_wp2_with fail
     refine HDO.out.mono ?_
     rintro e wQ ⟨rfl, hwq⟩
     subst hwq
     rename World => wR
     have hce : scE ⟨((n1 : Int), (n2 : Int), (n3 : Int), (n4 : Int)), (gl, gout), IL, AL⟩ = if scOk ⟨((n1 : Int), (n2 : Int), (n3 : Int), (n4 : Int)), (gl, gout), IL, AL⟩ = true then 0 else 260 := rfl
     cases hok : scOk ⟨((n1 : Int), (n2 : Int), (n3 : Int), (n4 : Int)), (gl, gout), IL, AL⟩ with
     | false =>
      rw [hce, hok, if_neg (by simp)] at HCK
      dsimp only [scAg, scL8] at HCK
      have HR2 := hid (show sres RES = scZ ∧ serr RES = 260 from by rw [HR1.out]; exact decA_no3 hok)
      clear hok hce
      go_wp2_with fail
      refine HCK.out.mono ?_
      rintro e wS ⟨rfl, heS⟩
      have HRSE2 := hid (HRSD.out.ext heS)
      have HEE := hid (HED.out.trans heS)
      clear heS
      have hbz := HRSE2.out
      have hst := @extQ_set8 (.int .i64 0) (.int .i64 0) (.int .i64 0) (.int .i64 0) (.slice none 0 0) (.int .i64 0) (.slice none 0 0) (.slice none 0 0) wS rs
      have HZB := hid (@Bx8.set8 wS rs 30 (.int .i64 0) (.int .i64 0) (.int .i64 0) (.int .i64 0) (.slice none 0 0) (.int .i64 0) (.slice none 0 0) (.slice none 0 0) (.int .i64 0) (.int .i64 0) (.int .i64 0) (.int .i64 0) (.slice none 0 0) (.int .i64 0) (.slice none 0 0) (.slice none 0 0) hbz)
      have HZX := hid ((HEE.out).andQ hst (fun k (hk : k = rs) => by have := HNE.out; omega))
      have f0 : wS.frozen? ⟨rs, 0, none⟩ = false := hbz.b.frozen 0
      have f1 : wS.frozen? ⟨rs, 1, none⟩ = false := hbz.b.frozen 1
      have f2 : wS.frozen? ⟨rs, 2, none⟩ = false := hbz.b.frozen 2
      have f3 : wS.frozen? ⟨rs, 3, none⟩ = false := hbz.b.frozen 3
      have f4 : wS.frozen? ⟨rs, 4, none⟩ = false := hbz.b.frozen 4
      have f5 : wS.frozen? ⟨rs, 5, none⟩ = false := hbz.b.frozen 5
      have f6 : wS.frozen? ⟨rs, 6, none⟩ = false := hbz.b.frozen 6
      have f7 : wS.frozen? ⟨rs, 7, none⟩ = false := hbz.b.frozen 7
      obtain ⟨e0, e1, e2, e3, e4, e5, e6, e7⟩ := hbz.at_
      clear hbz hst
      go_wp2
      generalize (((((((wS.setCell ⟨rs, 0, none⟩ (.int .i64 0)).setCell ⟨rs, 1, none⟩ (.int .i64 0)).setCell ⟨rs, 2, none⟩ (.int .i64 0)).setCell ⟨rs, 3, none⟩ (.int .i64 0)).setCell ⟨rs, 4, none⟩ (.slice none 0 0)).setCell ⟨rs, 5, none⟩ (.int .i64 0)).setCell ⟨rs, 6, none⟩ (.slice none 0 0)).setCell ⟨rs, 7, none⟩ (.slice none 0 0) = wy at *
      obtain ⟨y0, y1, y2, y3, y4, y5, y6, y7⟩ := HZB.out.at_
      obtain ⟨hz1, hz2⟩ := (show sres RES = scZ ∧ serr RES = 260 from HR2.out)
      rw [hz1, hz2]
      exact bodyPost_ret (v := .tuple #[scAg scZ (.slice none 0 0) (.slice none 0 0) (.slice none 0 0), .int .i64 260]) (by simp [results, Tryz.results13, go_sem, y0, y1, y2, y3, y4, y5, y6, y7, scZ]) rfl
       ⟨_, _, _, rfl, fun W _ => ⟨NodesR.nil _ _, InsR.nil _, ActsR.nil _⟩, HZX.out⟩
     | true =>
      rw [hce, hok, if_pos rfl] at HCK
      dsimp only [scAg, scL8] at HCK
      have HR2 := hid (show sres RES = ⟨((n1 : Int), (n2 : Int), (n3 : Int), (n4 : Int)), (gl, gout), IL, AL⟩ ∧ serr RES = 0 from by rw [HR1.out]; exact decA_yes rfl HD2.out hok)
      clear hok hce
      go_wp2_with fail
      refine HCK.out.mono ?_
      rintro e wS ⟨rfl, heS⟩
      have hbz := HRSD.out.ext heS
      have hst := @extQ_set8 (.int .i64 (n1 : Nat)) (.int .i64 (n2 : Nat)) (.int .i64 (n3 : Nat)) (.int .i64 (n4 : Nat)) (.slice AU gl.length cU) (.int .i64 gout) (.slice AI IL.length cI) (.slice AA AL.length cA) wS rs
      have HZB := hid (@Bx8.set8 wS rs 30 (.int .i64 0) (.int .i64 0) (.int .i64 0) (.int .i64 0) (.slice none 0 0) (.int .i64 0) (.slice none 0 0) (.slice none 0 0) (.int .i64 (n1 : Nat)) (.int .i64 (n2 : Nat)) (.int .i64 (n3 : Nat)) (.int .i64 (n4 : Nat)) (.slice AU gl.length cU) (.int .i64 gout) (.slice AI IL.length cI) (.slice AA AL.length cA) hbz)
      have HZX := hid ((HED.out.trans heS).andQ hst (fun k (hk : k = rs) => by have := HNE.out; omega))
      have HZR := hid (fun (W : World) (hW : ExtQ (fun k => k < w.heap.size) _ W) => HSCR.out W (((ExtQ.of heS).trans (hst.mono fun k hk => Or.inl hk)).trans (hW.mono fun k hk => Or.inr hk)))
      have f0 : wS.frozen? ⟨rs, 0, none⟩ = false := hbz.b.frozen 0
      have f1 : wS.frozen? ⟨rs, 1, none⟩ = false := hbz.b.frozen 1
      have f2 : wS.frozen? ⟨rs, 2, none⟩ = false := hbz.b.frozen 2
      have f3 : wS.frozen? ⟨rs, 3, none⟩ = false := hbz.b.frozen 3
      have f4 : wS.frozen? ⟨rs, 4, none⟩ = false := hbz.b.frozen 4
      have f5 : wS.frozen? ⟨rs, 5, none⟩ = false := hbz.b.frozen 5
      have f6 : wS.frozen? ⟨rs, 6, none⟩ = false := hbz.b.frozen 6
      have f7 : wS.frozen? ⟨rs, 7, none⟩ = false := hbz.b.frozen 7
      obtain ⟨e0, e1, e2, e3, e4, e5, e6, e7⟩ := hbz.at_
      clear b0 b1 b2 b3 b4 b5 b6 b7 hbz hst
      obtain ⟨b0, b1, b2, b3, b4, b5, b6, b7⟩ := (HOD.out.ext heS).at_
      clear heS
      go_wp2
      generalize (((((((wS.setCell ⟨rs, 0, none⟩ (.int .i64 (n1 : Nat))).setCell ⟨rs, 1, none⟩ (.int .i64 (n2 : Nat))).setCell ⟨rs, 2, none⟩ (.int .i64 (n3 : Nat))).setCell ⟨rs, 3, none⟩ (.int .i64 (n4 : Nat))).setCell ⟨rs, 4, none⟩ (.slice AU gl.length cU)).setCell ⟨rs, 5, none⟩ (.int .i64 gout)).setCell ⟨rs, 6, none⟩ (.slice AI IL.length cI)).setCell ⟨rs, 7, none⟩ (.slice AA AL.length cA) = wy at *
      obtain ⟨y0, y1, y2, y3, y4, y5, y6, y7⟩ := HZB.out.at_
      obtain ⟨hz1, hz2⟩ := HR2.out
      rw [hz1, hz2]
      exact bodyPost_ret (v := .tuple #[scAg ⟨((n1 : Int), (n2 : Int), (n3 : Int), (n4 : Int)), (gl, gout), IL, AL⟩ (.slice AU gl.length cU) (.slice AI IL.length cI) (.slice AA AL.length cA), .int .i64 0]) (by simp [results, Tryz.results13, go_sem, y0, y1, y2, y3, y4, y5, y6, y7]) rfl
       ⟨_, _, _, rfl, HZR.out, HZX.out⟩
end Go.Proofs.YtpmpjjhchkoboaaGreatDoor
