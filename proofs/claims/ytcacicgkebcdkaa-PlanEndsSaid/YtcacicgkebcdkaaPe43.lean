/-
  GrRefC, packed: what the claim needs of them.
-/
import Derived.Test.YtcacicgkebcdkaaPe40
import Derived.Test.YtcacicgkebcdkaaPe13
set_option linter.unusedSimpArgs false
set_option linter.unusedVariables false
set_option maxRecDepth 100000
namespace Go.Proofs.Ytcacicgkebcdkaa
open Go.RowKit Go.Ox Go.Ox.Gr
attribute [local irreducible] RE NodesR
set_option maxHeartbeats 16000000 in
theorem rn_f (op kind fa a loop : Int) (u b : Value) (ins : List Int) (body : List Nd) (d at_ : Nat) (lb : Bool) (w : World) (hl : loop = -1 ∨ 0 ≤ loop) (hu : RE w u ins) (hb : NodesR d w b body)
    (hli : op = 9 → numB op a loop = true → ∀ W, Ext w W → Calls Try.prog 65 #[b, .int .i64 (at_ : Int)] W fun e W' => e = .returned (.bool lb) ∧ Ext W W')
    (k1 : 1 ≤ op) (k2 : op ≤ 11) (k3 : (ins.length : Int) = arity op) (kf : ¬ fmly op = 0) :
    Calls Try.prog 39 #[ndAg op kind fa a u b, .int .i64 (at_ : Int), .int .i64 loop] w fun e w' => e = .returned (.bool (nodeB loop lb (.mk op ins kind fa a body) at_)) ∧ Ext w w' := by
  have HR := Lib.hid (show nodeB loop lb (.mk op ins kind fa a body) at_ = ((opOk op && (decide ((ins.length : Int) = arity op) && insOk ins at_)) && (fnB (fmly op) kind fa && (numB op a loop && (if op = 9 then lb else body.isEmpty)))) from by
    unfold nodeB base
    rw [fnB_eq, numB_eq]; rfl)
  generalize nodeB loop lb (.mk op ins kind fa a body) at_ = res at *
  have HAR := Lib.hid (fun w => rArity_any op w)
  have HX0 := Lib.hid ((Ext.refl w).alloc (ndCs op kind fa a u b))
  have HB0 := Lib.hid (Bx6.new w 45 (.int .i64 op) u (.int .i64 kind) (.int .i64 fa) (.int .i64 a) b)
  have HU := Lib.hid (hu.ext HX0.out)
  obtain ⟨Au, cu, rfl⟩ := hu.form
  obtain ⟨Ab, cb, rfl⟩ := hb.form
  have HFA := Lib.hid (fun w => rfamily_any op w)
  have HFV := Lib.hid (fun w => rfnFamily kind fa w)
  have HLI := Lib.hid hli
  have HIL := Lib.hid (show ins.length ≤ 1000000 by have := arity_range op; omega)
  have HBE := Lib.hid (show body.isEmpty = decide (body.length = 0) from by cases body <;> simp)
  replace HR := Lib.hid (show res = (insOk ins at_ && (fnB (fmly op) kind fa && (numB op a loop && (if op = 9 then lb else body.isEmpty)))) from by
    rw [HR.out, decide_eq_true k3, show opOk op = true by unfold opOk; rw [decide_eq_true k1, decide_eq_true k2]; rfl, Bool.true_and, Bool.true_and])
  have o1 : ¬ op < 1 := by omega
  have o2 : ¬ 11 < op := by omega
  have hbn : ((ins.length : Int) != arity op) = false := by simpa using k3
  have HOP := Lib.hid (show op ≠ 1 ∧ op ≠ 9 ∧ op ≠ 10 ∧ op ≠ 11 from by refine ⟨?_, ?_, ?_, ?_⟩ <;> (rintro rfl; exact kf rfl))
  have HFN := Lib.hid (show fnB (fmly op) kind fa = (fam kind fa == fmly op) from if_neg kf)
  have hfp : (0 : Int) < fmly op := by have := fmly_range op; omega
  have hf0b : (fmly op == 0) = false := by simpa using kf
  have hb9 : (op != 9) = true := by simpa using HOP.out.2.1
  clear kf
  clear hu hb hli k1 k2 k3
  generalize body.isEmpty = be at *
  generalize body.length = bl at *
  generalize arity op = ar at *
  generalize fnB (fmly op) kind fa = fB at *
  generalize fmly op = fm at *
  generalize fam kind fa = fv at *
  go_enter Try.func39, Try.ntmps39
  go_upto_region 1 with fail
  generalize w.heap.size = p at *
  generalize w.alloc (ndCs op kind fa a (.slice Au ins.length cu) (.slice Ab bl cb)) = w0 at *
  obtain ⟨c0, c1, c2, c3, c4, c5⟩ := HB0.out.at_
  refine wp_regionY [] [] Ext Ext (fun _ => True) (by kernel_rfl) (by rfl) (by rfl) (by kernel_rfl) (by kernel_rfl) (by kernel_rfl) (fun _ _ _ x y => x.trans y) Ext.refl (fun _ _ x => x) (Ext.refl _).drew (fun _ _ x _ => x) trivial ?_
  repeat (first | (refine wpY_move0 rfl rfl (by first | exact runs0 | exact runs1 rfl) Ext.refl rfl rfl rfl ?_; apply Exists.intro; refine ⟨?_, ?_⟩; · (go_simp; rfl)) | (refine wpY_move rfl rfl (by first | exact runs0 | exact runs1 rfl) Ext.refl rfl rfl rfl (fun _ _ _ h _ => h) ?_) | (refine wpY_val rfl rfl (by first | exact runs0 | exact runs1 rfl) Ext.refl rfl ?_; apply Exists.intro; refine ⟨?_, ?_⟩; · (intro a w' hR; (try (intro h1; try have e1 : _ = _ := h1)); (try (intro h2; try have e2 : _ = _ := h2)); (try (intro h3; try have e3 : _ = _ := h3)); go_simp; rfl)) | (refine wpY_skip rfl rfl (by first | exact .inl rfl | exact .inr rfl) ?_))
  refine wpY_val rfl rfl (by first | exact runs0 | exact runs1 rfl) Ext.refl rfl ?_; apply Exists.intro; refine ⟨?_, ?_⟩
  · intro a w' hR h1
    have e1 : _ = _ := h1
    have hl0 := hR.cell c0
    go_simp
    rfl
  repeat (first | (refine wpY_move0 rfl rfl (by first | exact runs0 | exact runs1 rfl) Ext.refl rfl rfl rfl ?_; apply Exists.intro; refine ⟨?_, ?_⟩; · (go_simp; rfl)) | (refine wpY_move rfl rfl (by first | exact runs0 | exact runs1 rfl) Ext.refl rfl rfl rfl (fun _ _ _ h _ => h) ?_) | (refine wpY_val rfl rfl (by first | exact runs0 | exact runs1 rfl) Ext.refl rfl ?_; apply Exists.intro; refine ⟨?_, ?_⟩; · (intro a w' hR; (try (intro h1; try have e1 : _ = _ := h1)); (try (intro h2; try have e2 : _ = _ := h2)); (try (intro h3; try have e3 : _ = _ := h3)); go_simp; rfl)) | (refine wpY_skip rfl rfl (by first | exact .inl rfl | exact .inr rfl) ?_))
  refine wpY_val rfl rfl (by first | exact runs0 | exact runs1 rfl) Ext.refl rfl ?_; apply Exists.intro; refine ⟨?_, ?_⟩
  · intro a w' hR h1
    have e1 : _ = _ := h1
    have hl0 := hR.cell c0
    go_simp
    rfl
  repeat (first | (refine wpY_move0 rfl rfl (by first | exact runs0 | exact runs1 rfl) Ext.refl rfl rfl rfl ?_; apply Exists.intro; refine ⟨?_, ?_⟩; · (go_simp; rfl)) | (refine wpY_move rfl rfl (by first | exact runs0 | exact runs1 rfl) Ext.refl rfl rfl rfl (fun _ _ _ h _ => h) ?_) | (refine wpY_val rfl rfl (by first | exact runs0 | exact runs1 rfl) Ext.refl rfl ?_; apply Exists.intro; refine ⟨?_, ?_⟩; · (intro a w' hR; (try (intro h1; try have e1 : _ = _ := h1)); (try (intro h2; try have e2 : _ = _ := h2)); (try (intro h3; try have e3 : _ = _ := h3)); go_simp; rfl)) | (refine wpY_skip rfl rfl (by first | exact .inl rfl | exact .inr rfl) ?_))
  refine wpY_val rfl rfl (by first | exact runs0 | exact runs1 rfl) Ext.refl rfl ?_; apply Exists.intro; refine ⟨?_, ?_⟩
  · intro a w' hR h1
    have e1 : _ = _ := h1
    have hl0 := hR.cell c1
    go_simp
    rfl
  repeat (first | (refine wpY_move0 rfl rfl (by first | exact runs0 | exact runs1 rfl) Ext.refl rfl rfl rfl ?_; apply Exists.intro; refine ⟨?_, ?_⟩; · (go_simp; rfl)) | (refine wpY_move rfl rfl (by first | exact runs0 | exact runs1 rfl) Ext.refl rfl rfl rfl (fun _ _ _ h _ => h) ?_) | (refine wpY_val rfl rfl (by first | exact runs0 | exact runs1 rfl) Ext.refl rfl ?_; apply Exists.intro; refine ⟨?_, ?_⟩; · (intro a w' hR; (try (intro h1; try have e1 : _ = _ := h1)); (try (intro h2; try have e2 : _ = _ := h2)); (try (intro h3; try have e3 : _ = _ := h3)); go_simp; rfl)) | (refine wpY_skip rfl rfl (by first | exact .inl rfl | exact .inr rfl) ?_))
  refine wpY_val rfl rfl (by first | exact runs0 | exact runs1 rfl) Ext.refl rfl ?_; apply Exists.intro; refine ⟨?_, ?_⟩
  · intro a w' hR h1
    have e1 : _ = _ := h1
    have hl0 := hR.cell c0
    go_simp
    rfl
  refine wpY_call (fun v _ => v = .int .i64 ar) rfl rfl (by first | exact runs0 | exact runs1 rfl) rfl (by exact mono_eq) ?_ ?_
  · intro a w' hR h1 K hK
    have e1 : _ = _ := h1
    go_simp
    refine (HAR.out w').mono ?_
    rintro e w2 ⟨rfl, rfl⟩
    exact hK _ _ (Ext.refl _) rfl
  repeat (first | (refine wpY_move0 rfl rfl (by first | exact runs0 | exact runs1 rfl) Ext.refl rfl rfl rfl ?_; apply Exists.intro; refine ⟨?_, ?_⟩; · (go_simp; rfl)) | (refine wpY_move rfl rfl (by first | exact runs0 | exact runs1 rfl) Ext.refl rfl rfl rfl (fun _ _ _ h _ => h) ?_) | (refine wpY_val rfl rfl (by first | exact runs0 | exact runs1 rfl) Ext.refl rfl ?_; apply Exists.intro; refine ⟨?_, ?_⟩; · (intro a w' hR; (try (intro h1; try have e1 : _ = _ := h1)); (try (intro h2; try have e2 : _ = _ := h2)); (try (intro h3; try have e3 : _ = _ := h3)); go_simp; rfl)) | (refine wpY_skip rfl rfl (by first | exact .inl rfl | exact .inr rfl) ?_))
  refine wpY_done ?_
  intro w1 hx1 hS1
  iterate 17 (rintro _ rfl)
  dsimp only [FinV]
  go_simp
  have hx1 : Ext w0 w1 := hx1
  have HX1 := Lib.hid (HX0.out.trans hx1)
  have HB1 := Lib.hid (HB0.out.ext hx1)
  have HU1 := Lib.hid (HU.out.ext hx1)
  clear hx1 hS1 c0 c1 c2 c3 c4 c5 HU HB0 HAR hbn
  go_wp2
  go_loopw [7] (fun iv wr => ∃ k : Nat, k ≤ ins.length ∧ iv = .int .i64 (k : Int) ∧ insOk (ins.take k) at_ = true ∧ Ext w1 wr) (fun iv _ => ins.length - (intOf iv).toNat)
  case atStart => exact ⟨0, Nat.zero_le _, rfl, rfl, Ext.refl _⟩
  case round =>
    obtain ⟨k, hk, rfl, hp, hext⟩ := hrel
    have HP := Lib.hid hp
    have HE := Lib.hid (HX1.out.trans hext)
    have HEX := Lib.hid hext
    have HBR := Lib.hid (HB1.out.ext hext)
    obtain ⟨c0, c1, c2, c3, c4, c5⟩ := HBR.out.at_
    clear hp
    by_cases hlt : k < ins.length
    · have q1 : (k : Int) < (ins.length : Int) := by omega
      have q0 : 0 ≤ (k : Int) := by omega
      have q1n : k < ins.length := hlt
      have HLT := Lib.hid hlt
      have hkb : k ≤ 1000000 := by have := HIL.out; omega
      obtain ⟨bA, oA, rfl, y0⟩ := ri1 (HU1.out.ext hext) hlt
      have HS := Lib.hid (insOk_s ins at_ hlt)
      rw [HP.out, Bool.true_and] at HS
      have HBAD := Lib.hid (fun (hx : ¬ (0 ≤ ins[k] ∧ ins[k] < (at_ : Int))) => show res = false from by rw [HR.out, insOk_no ins at_ hlt hx, Bool.false_and])
      generalize ins[k] = x at *
      clear hext hlt hk
      by_cases x0 : x < 0
      · obtain rfl : res = false := HBAD.out (by omega)
        go_wp2
        go_ret
        exact ⟨rfl, HE.out⟩
      by_cases x1 : (at_ : Int) ≤ x
      · obtain rfl : res = false := HBAD.out (by omega)
        go_wp2
        go_ret
        exact ⟨rfl, HE.out⟩
      have HA := Lib.hid (show ahB x at_ = true by unfold ahB; rw [decide_eq_true (show 0 ≤ x by omega), decide_eq_true (show x < (at_ : Int) by omega)]; rfl)
      go_wp2
      exact ⟨⟨k + 1, HLT.out, by go_num, by rw [HS.out, HA.out], HEX.out⟩, by have := HLT.out; simp [intOf]; omega⟩
    · obtain rfl : k = ins.length := by omega
      have q1 : ¬ (ins.length : Int) < (ins.length : Int) := by omega
      rw [List.take_length] at HP
      replace HR := Lib.hid (show res = (fB && (numB op a loop && (if op = 9 then lb else be))) from by rw [HR.out, HP.out, Bool.true_and])
      clear hext hk hlt HP HEX HU1 HB1 HX1 HIL
      go_upto_region 8 with fail
      by_cases kv : fv = fm
      case neg =>
        have hfn : (fv != fm) = true := by simpa using kv
        have HV := Lib.hid (show res = false from by rw [HR.out, HFN.out, show (fv == fm) = false by simpa using kv, Bool.false_and])
        clear kv
        refine wp_regionY [] [] Ext Ext (fun _ => True) (by kernel_rfl) (by rfl) (by rfl) (by kernel_rfl) (by kernel_rfl) (by kernel_rfl) (fun _ _ _ x y => x.trans y) Ext.refl (fun _ _ x => x) (Ext.refl _).drew (fun _ _ x _ => x) trivial ?_
        repeat (first | (refine wpY_move0 rfl rfl (by first | exact runs0 | exact runs1 rfl) Ext.refl rfl rfl rfl ?_; apply Exists.intro; refine ⟨?_, ?_⟩; · (go_simp; rfl)) | (refine wpY_move rfl rfl (by first | exact runs0 | exact runs1 rfl) Ext.refl rfl rfl rfl (fun _ _ _ h _ => h) ?_) | (refine wpY_val rfl rfl (by first | exact runs0 | exact runs1 rfl) Ext.refl rfl ?_; apply Exists.intro; refine ⟨?_, ?_⟩; · (intro a w' hR; (try (intro h1; try have e1 : _ = _ := h1)); (try (intro h2; try have e2 : _ = _ := h2)); (try (intro h3; try have e3 : _ = _ := h3)); go_simp; rfl)) | (refine wpY_skip rfl rfl (by first | exact .inl rfl | exact .inr rfl) ?_))
        refine wpY_val rfl rfl (by first | exact runs0 | exact runs1 rfl) Ext.refl rfl ?_; apply Exists.intro; refine ⟨?_, ?_⟩
        · intro a w' hR h1
          have e1 : _ = _ := h1
          have hl0 := hR.cell c0
          go_simp
          rfl
        refine wpY_call (fun v _ => v = .int .i64 fm) rfl rfl (by first | exact runs0 | exact runs1 rfl) rfl (by exact mono_eq) ?_ ?_
        · intro a w' hR h1 K hK
          have e1 : _ = _ := h1
          go_simp
          refine (HFA.out w').mono ?_
          rintro e w2 ⟨rfl, rfl⟩
          exact hK _ _ (Ext.refl _) rfl
        repeat (first | (refine wpY_move0 rfl rfl (by first | exact runs0 | exact runs1 rfl) Ext.refl rfl rfl rfl ?_; apply Exists.intro; refine ⟨?_, ?_⟩; · (go_simp; rfl)) | (refine wpY_move rfl rfl (by first | exact runs0 | exact runs1 rfl) Ext.refl rfl rfl rfl (fun _ _ _ h _ => h) ?_) | (refine wpY_val rfl rfl (by first | exact runs0 | exact runs1 rfl) Ext.refl rfl ?_; apply Exists.intro; refine ⟨?_, ?_⟩; · (intro a w' hR; (try (intro h1; try have e1 : _ = _ := h1)); (try (intro h2; try have e2 : _ = _ := h2)); (try (intro h3; try have e3 : _ = _ := h3)); go_simp; rfl)) | (refine wpY_skip rfl rfl (by first | exact .inl rfl | exact .inr rfl) ?_))
        refine wpY_val rfl rfl (by first | exact runs0 | exact runs1 rfl) Ext.refl rfl ?_; apply Exists.intro; refine ⟨?_, ?_⟩
        · intro a w' hR h1
          have e1 : _ = _ := h1
          have hl2 := hR.cell c2
          have hl3 := hR.cell c3
          go_simp
          rfl
        refine wpY_call (fun v _ => v = .int .i64 fv) rfl rfl (by first | exact runs0 | exact runs1 rfl) rfl (by exact mono_eq) ?_ ?_
        · intro a w' hR h1 K hK
          have e1 : _ = _ := h1
          go_simp
          refine (HFV.out w').mono ?_
          rintro e w2 ⟨rfl, he⟩
          exact hK _ _ he rfl
        repeat (first | (refine wpY_move0 rfl rfl (by first | exact runs0 | exact runs1 rfl) Ext.refl rfl rfl rfl ?_; apply Exists.intro; refine ⟨?_, ?_⟩; · (go_simp; rfl)) | (refine wpY_move rfl rfl (by first | exact runs0 | exact runs1 rfl) Ext.refl rfl rfl rfl (fun _ _ _ h _ => h) ?_) | (refine wpY_val rfl rfl (by first | exact runs0 | exact runs1 rfl) Ext.refl rfl ?_; apply Exists.intro; refine ⟨?_, ?_⟩; · (intro a w' hR; (try (intro h1; try have e1 : _ = _ := h1)); (try (intro h2; try have e2 : _ = _ := h2)); (try (intro h3; try have e3 : _ = _ := h3)); go_simp; rfl)) | (refine wpY_skip rfl rfl (by first | exact .inl rfl | exact .inr rfl) ?_))
        refine wpY_val rfl rfl (by first | exact runs0 | exact runs1 rfl) Ext.refl rfl ?_; apply Exists.intro; refine ⟨?_, ?_⟩
        · intro a w' hR h1
          have e1 : _ = _ := h1
          have hl0 := hR.cell c0
          go_simp
          rfl
        refine wpY_call (fun v _ => v = .int .i64 fm) rfl rfl (by first | exact runs0 | exact runs1 rfl) rfl (by exact mono_eq) ?_ ?_
        · intro a w' hR h1 K hK
          have e1 : _ = _ := h1
          go_simp
          refine (HFA.out w').mono ?_
          rintro e w2 ⟨rfl, rfl⟩
          exact hK _ _ (Ext.refl _) rfl
        repeat (first | (refine wpY_move0 rfl rfl (by first | exact runs0 | exact runs1 rfl) Ext.refl rfl rfl rfl ?_; apply Exists.intro; refine ⟨?_, ?_⟩; · (go_simp; rfl)) | (refine wpY_move rfl rfl (by first | exact runs0 | exact runs1 rfl) Ext.refl rfl rfl rfl (fun _ _ _ h _ => h) ?_) | (refine wpY_val rfl rfl (by first | exact runs0 | exact runs1 rfl) Ext.refl rfl ?_; apply Exists.intro; refine ⟨?_, ?_⟩; · (intro a w' hR; (try (intro h1; try have e1 : _ = _ := h1)); (try (intro h2; try have e2 : _ = _ := h2)); (try (intro h3; try have e3 : _ = _ := h3)); go_simp; rfl)) | (refine wpY_skip rfl rfl (by first | exact .inl rfl | exact .inr rfl) ?_))
        refine wpY_done ?_
        intro w5 hx5 hS5
        iterate 36 (rintro _ rfl)
        dsimp only [FinV]
        go_simp
        have hx5 : Ext wr w5 := hx5
        have HX5 := Lib.hid (HE.out.trans hx5)
        have HB5 := Lib.hid (HBR.out.ext hx5)
        clear hx5 hS5 c0 c1 c2 c3 c4 c5
        obtain rfl : res = false := HV.out
        go_wp2
        go_ret
        exact ⟨rfl, HX5.out⟩
      have hfn : (fv != fm) = false := by simpa using kv
      have HFE := Lib.hid (show (fv == fm) = true by simpa using kv)
      clear kv
      by_cases kb : bl = 0
      · replace HR := Lib.hid (show res = decide (a = 0) from by rw [HR.out, HFN.out, HFE.out, if_neg HOP.out.2.1, HBE.out, decide_eq_true kb, Bool.and_true, Bool.true_and]; unfold numB; rw [if_neg HOP.out.1, if_neg HOP.out.2.1, if_neg HOP.out.2.2.1, if_neg HOP.out.2.2.2])
        have hb0 : ¬ (0 : Int) < (bl : Int) := by omega
        clear kb
        refine wp_regionY [] [] Ext Ext (fun _ => True) (by kernel_rfl) (by rfl) (by rfl) (by kernel_rfl) (by kernel_rfl) (by kernel_rfl) (fun _ _ _ x y => x.trans y) Ext.refl (fun _ _ x => x) (Ext.refl _).drew (fun _ _ x _ => x) trivial ?_
        repeat (first | (refine wpY_move0 rfl rfl (by first | exact runs0 | exact runs1 rfl) Ext.refl rfl rfl rfl ?_; apply Exists.intro; refine ⟨?_, ?_⟩; · (go_simp; rfl)) | (refine wpY_move rfl rfl (by first | exact runs0 | exact runs1 rfl) Ext.refl rfl rfl rfl (fun _ _ _ h _ => h) ?_) | (refine wpY_val rfl rfl (by first | exact runs0 | exact runs1 rfl) Ext.refl rfl ?_; apply Exists.intro; refine ⟨?_, ?_⟩; · (intro a w' hR; (try (intro h1; try have e1 : _ = _ := h1)); (try (intro h2; try have e2 : _ = _ := h2)); (try (intro h3; try have e3 : _ = _ := h3)); go_simp; rfl)) | (refine wpY_skip rfl rfl (by first | exact .inl rfl | exact .inr rfl) ?_))
        refine wpY_val rfl rfl (by first | exact runs0 | exact runs1 rfl) Ext.refl rfl ?_; apply Exists.intro; refine ⟨?_, ?_⟩
        · intro a w' hR h1
          have e1 : _ = _ := h1
          have hl0 := hR.cell c0
          go_simp
          rfl
        refine wpY_call (fun v _ => v = .int .i64 fm) rfl rfl (by first | exact runs0 | exact runs1 rfl) rfl (by exact mono_eq) ?_ ?_
        · intro a w' hR h1 K hK
          have e1 : _ = _ := h1
          go_simp
          refine (HFA.out w').mono ?_
          rintro e w2 ⟨rfl, rfl⟩
          exact hK _ _ (Ext.refl _) rfl
        repeat (first | (refine wpY_move0 rfl rfl (by first | exact runs0 | exact runs1 rfl) Ext.refl rfl rfl rfl ?_; apply Exists.intro; refine ⟨?_, ?_⟩; · (go_simp; rfl)) | (refine wpY_move rfl rfl (by first | exact runs0 | exact runs1 rfl) Ext.refl rfl rfl rfl (fun _ _ _ h _ => h) ?_) | (refine wpY_val rfl rfl (by first | exact runs0 | exact runs1 rfl) Ext.refl rfl ?_; apply Exists.intro; refine ⟨?_, ?_⟩; · (intro a w' hR; (try (intro h1; try have e1 : _ = _ := h1)); (try (intro h2; try have e2 : _ = _ := h2)); (try (intro h3; try have e3 : _ = _ := h3)); go_simp; rfl)) | (refine wpY_skip rfl rfl (by first | exact .inl rfl | exact .inr rfl) ?_))
        refine wpY_val rfl rfl (by first | exact runs0 | exact runs1 rfl) Ext.refl rfl ?_; apply Exists.intro; refine ⟨?_, ?_⟩
        · intro a w' hR h1
          have e1 : _ = _ := h1
          have hl2 := hR.cell c2
          have hl3 := hR.cell c3
          go_simp
          rfl
        refine wpY_call (fun v _ => v = .int .i64 fv) rfl rfl (by first | exact runs0 | exact runs1 rfl) rfl (by exact mono_eq) ?_ ?_
        · intro a w' hR h1 K hK
          have e1 : _ = _ := h1
          go_simp
          refine (HFV.out w').mono ?_
          rintro e w2 ⟨rfl, he⟩
          exact hK _ _ he rfl
        repeat (first | (refine wpY_move0 rfl rfl (by first | exact runs0 | exact runs1 rfl) Ext.refl rfl rfl rfl ?_; apply Exists.intro; refine ⟨?_, ?_⟩; · (go_simp; rfl)) | (refine wpY_move rfl rfl (by first | exact runs0 | exact runs1 rfl) Ext.refl rfl rfl rfl (fun _ _ _ h _ => h) ?_) | (refine wpY_val rfl rfl (by first | exact runs0 | exact runs1 rfl) Ext.refl rfl ?_; apply Exists.intro; refine ⟨?_, ?_⟩; · (intro a w' hR; (try (intro h1; try have e1 : _ = _ := h1)); (try (intro h2; try have e2 : _ = _ := h2)); (try (intro h3; try have e3 : _ = _ := h3)); go_simp; rfl)) | (refine wpY_skip rfl rfl (by first | exact .inl rfl | exact .inr rfl) ?_))
        refine wpY_val rfl rfl (by first | exact runs0 | exact runs1 rfl) Ext.refl rfl ?_; apply Exists.intro; refine ⟨?_, ?_⟩
        · intro a w' hR h1
          have e1 : _ = _ := h1
          have hl0 := hR.cell c0
          go_simp
          rfl
        refine wpY_call (fun v _ => v = .int .i64 fm) rfl rfl (by first | exact runs0 | exact runs1 rfl) rfl (by exact mono_eq) ?_ ?_
        · intro a w' hR h1 K hK
          have e1 : _ = _ := h1
          go_simp
          refine (HFA.out w').mono ?_
          rintro e w2 ⟨rfl, rfl⟩
          exact hK _ _ (Ext.refl _) rfl
        repeat (first | (refine wpY_move0 rfl rfl (by first | exact runs0 | exact runs1 rfl) Ext.refl rfl rfl rfl ?_; apply Exists.intro; refine ⟨?_, ?_⟩; · (go_simp; rfl)) | (refine wpY_move rfl rfl (by first | exact runs0 | exact runs1 rfl) Ext.refl rfl rfl rfl (fun _ _ _ h _ => h) ?_) | (refine wpY_val rfl rfl (by first | exact runs0 | exact runs1 rfl) Ext.refl rfl ?_; apply Exists.intro; refine ⟨?_, ?_⟩; · (intro a w' hR; (try (intro h1; try have e1 : _ = _ := h1)); (try (intro h2; try have e2 : _ = _ := h2)); (try (intro h3; try have e3 : _ = _ := h3)); go_simp; rfl)) | (refine wpY_skip rfl rfl (by first | exact .inl rfl | exact .inr rfl) ?_))
        refine wpY_val rfl rfl (by first | exact runs0 | exact runs1 rfl) Ext.refl rfl ?_; apply Exists.intro; refine ⟨?_, ?_⟩
        · intro a w' hR h1
          have e1 : _ = _ := h1
          have hl0 := hR.cell c0
          go_simp
          rfl
        refine wpY_call (fun v _ => v = .int .i64 fm) rfl rfl (by first | exact runs0 | exact runs1 rfl) rfl (by exact mono_eq) ?_ ?_
        · intro a w' hR h1 K hK
          have e1 : _ = _ := h1
          go_simp
          refine (HFA.out w').mono ?_
          rintro e w2 ⟨rfl, rfl⟩
          exact hK _ _ (Ext.refl _) rfl
        repeat (first | (refine wpY_move0 rfl rfl (by first | exact runs0 | exact runs1 rfl) Ext.refl rfl rfl rfl ?_; apply Exists.intro; refine ⟨?_, ?_⟩; · (go_simp; rfl)) | (refine wpY_move rfl rfl (by first | exact runs0 | exact runs1 rfl) Ext.refl rfl rfl rfl (fun _ _ _ h _ => h) ?_) | (refine wpY_val rfl rfl (by first | exact runs0 | exact runs1 rfl) Ext.refl rfl ?_; apply Exists.intro; refine ⟨?_, ?_⟩; · (intro a w' hR; (try (intro h1; try have e1 : _ = _ := h1)); (try (intro h2; try have e2 : _ = _ := h2)); (try (intro h3; try have e3 : _ = _ := h3)); go_simp; rfl)) | (refine wpY_skip rfl rfl (by first | exact .inl rfl | exact .inr rfl) ?_))
        refine wpY_val rfl rfl (by first | exact runs0 | exact runs1 rfl) Ext.refl rfl ?_; apply Exists.intro; refine ⟨?_, ?_⟩
        · intro a w' hR h1
          have e1 : _ = _ := h1
          have hl0 := hR.cell c0
          go_simp
          rfl
        repeat (first | (refine wpY_move0 rfl rfl (by first | exact runs0 | exact runs1 rfl) Ext.refl rfl rfl rfl ?_; apply Exists.intro; refine ⟨?_, ?_⟩; · (go_simp; rfl)) | (refine wpY_move rfl rfl (by first | exact runs0 | exact runs1 rfl) Ext.refl rfl rfl rfl (fun _ _ _ h _ => h) ?_) | (refine wpY_val rfl rfl (by first | exact runs0 | exact runs1 rfl) Ext.refl rfl ?_; apply Exists.intro; refine ⟨?_, ?_⟩; · (intro a w' hR; (try (intro h1; try have e1 : _ = _ := h1)); (try (intro h2; try have e2 : _ = _ := h2)); (try (intro h3; try have e3 : _ = _ := h3)); go_simp; rfl)) | (refine wpY_skip rfl rfl (by first | exact .inl rfl | exact .inr rfl) ?_))
        refine wpY_val rfl rfl (by first | exact runs0 | exact runs1 rfl) Ext.refl rfl ?_; apply Exists.intro; refine ⟨?_, ?_⟩
        · intro a w' hR h1
          have e1 : _ = _ := h1
          have hl5 := hR.cell c5
          go_simp
          rfl
        repeat (first | (refine wpY_move0 rfl rfl (by first | exact runs0 | exact runs1 rfl) Ext.refl rfl rfl rfl ?_; apply Exists.intro; refine ⟨?_, ?_⟩; · (go_simp; rfl)) | (refine wpY_move rfl rfl (by first | exact runs0 | exact runs1 rfl) Ext.refl rfl rfl rfl (fun _ _ _ h _ => h) ?_) | (refine wpY_val rfl rfl (by first | exact runs0 | exact runs1 rfl) Ext.refl rfl ?_; apply Exists.intro; refine ⟨?_, ?_⟩; · (intro a w' hR; (try (intro h1; try have e1 : _ = _ := h1)); (try (intro h2; try have e2 : _ = _ := h2)); (try (intro h3; try have e3 : _ = _ := h3)); go_simp; rfl)) | (refine wpY_skip rfl rfl (by first | exact .inl rfl | exact .inr rfl) ?_))
        refine wpY_done ?_
        intro w5 hx5 hS5
        iterate 36 (rintro _ rfl)
        dsimp only [FinV]
        go_simp
        have hx5 : Ext wr w5 := hx5
        have HX5 := Lib.hid (HE.out.trans hx5)
        have HB5 := Lib.hid (HBR.out.ext hx5)
        clear hx5 hS5 c0 c1 c2 c3 c4 c5
        obtain ⟨c0, c1, c2, c3, c4, c5⟩ := HB5.out.at_
        clear HFA HFV HBR HE HFN HBE
        obtain ⟨n1, k9, n10, n11⟩ := HOP.out
        have hn := HOP
        have m1 : (op == 1) = false := by simpa using n1
        have m9 : (op == 9) = false := by simpa using k9
        have m10 : (op == 10) = false := by simpa using n10
        have m11 : (op == 11) = false := by simpa using n11
        clear n1 k9 n10 n11 hn
        by_cases h0 : a = 0
        · subst h0
          obtain rfl : res = true := by rw [HR.out]; rfl
          go_wp2_with fail
          go_ret
          exact ⟨rfl, HX5.out⟩
        · obtain rfl : res = false := by rw [HR.out]; exact decide_eq_false h0
          have hb : (a == 0) = false := by simpa using h0
          go_wp2_with fail
          go_ret
          exact ⟨rfl, HX5.out⟩
      · have HV := Lib.hid (show res = false from by rw [HR.out, if_neg HOP.out.2.1, HBE.out, decide_eq_false kb, Bool.and_false, Bool.and_false])
        have hb0 : (0 : Int) < (bl : Int) := by omega
        clear kb
        refine wp_regionY [] [] Ext Ext (fun _ => True) (by kernel_rfl) (by rfl) (by rfl) (by kernel_rfl) (by kernel_rfl) (by kernel_rfl) (fun _ _ _ x y => x.trans y) Ext.refl (fun _ _ x => x) (Ext.refl _).drew (fun _ _ x _ => x) trivial ?_
        repeat (first | (refine wpY_move0 rfl rfl (by first | exact runs0 | exact runs1 rfl) Ext.refl rfl rfl rfl ?_; apply Exists.intro; refine ⟨?_, ?_⟩; · (go_simp; rfl)) | (refine wpY_move rfl rfl (by first | exact runs0 | exact runs1 rfl) Ext.refl rfl rfl rfl (fun _ _ _ h _ => h) ?_) | (refine wpY_val rfl rfl (by first | exact runs0 | exact runs1 rfl) Ext.refl rfl ?_; apply Exists.intro; refine ⟨?_, ?_⟩; · (intro a w' hR; (try (intro h1; try have e1 : _ = _ := h1)); (try (intro h2; try have e2 : _ = _ := h2)); (try (intro h3; try have e3 : _ = _ := h3)); go_simp; rfl)) | (refine wpY_skip rfl rfl (by first | exact .inl rfl | exact .inr rfl) ?_))
        refine wpY_val rfl rfl (by first | exact runs0 | exact runs1 rfl) Ext.refl rfl ?_; apply Exists.intro; refine ⟨?_, ?_⟩
        · intro a w' hR h1
          have e1 : _ = _ := h1
          have hl0 := hR.cell c0
          go_simp
          rfl
        refine wpY_call (fun v _ => v = .int .i64 fm) rfl rfl (by first | exact runs0 | exact runs1 rfl) rfl (by exact mono_eq) ?_ ?_
        · intro a w' hR h1 K hK
          have e1 : _ = _ := h1
          go_simp
          refine (HFA.out w').mono ?_
          rintro e w2 ⟨rfl, rfl⟩
          exact hK _ _ (Ext.refl _) rfl
        repeat (first | (refine wpY_move0 rfl rfl (by first | exact runs0 | exact runs1 rfl) Ext.refl rfl rfl rfl ?_; apply Exists.intro; refine ⟨?_, ?_⟩; · (go_simp; rfl)) | (refine wpY_move rfl rfl (by first | exact runs0 | exact runs1 rfl) Ext.refl rfl rfl rfl (fun _ _ _ h _ => h) ?_) | (refine wpY_val rfl rfl (by first | exact runs0 | exact runs1 rfl) Ext.refl rfl ?_; apply Exists.intro; refine ⟨?_, ?_⟩; · (intro a w' hR; (try (intro h1; try have e1 : _ = _ := h1)); (try (intro h2; try have e2 : _ = _ := h2)); (try (intro h3; try have e3 : _ = _ := h3)); go_simp; rfl)) | (refine wpY_skip rfl rfl (by first | exact .inl rfl | exact .inr rfl) ?_))
        refine wpY_val rfl rfl (by first | exact runs0 | exact runs1 rfl) Ext.refl rfl ?_; apply Exists.intro; refine ⟨?_, ?_⟩
        · intro a w' hR h1
          have e1 : _ = _ := h1
          have hl2 := hR.cell c2
          have hl3 := hR.cell c3
          go_simp
          rfl
        refine wpY_call (fun v _ => v = .int .i64 fv) rfl rfl (by first | exact runs0 | exact runs1 rfl) rfl (by exact mono_eq) ?_ ?_
        · intro a w' hR h1 K hK
          have e1 : _ = _ := h1
          go_simp
          refine (HFV.out w').mono ?_
          rintro e w2 ⟨rfl, he⟩
          exact hK _ _ he rfl
        repeat (first | (refine wpY_move0 rfl rfl (by first | exact runs0 | exact runs1 rfl) Ext.refl rfl rfl rfl ?_; apply Exists.intro; refine ⟨?_, ?_⟩; · (go_simp; rfl)) | (refine wpY_move rfl rfl (by first | exact runs0 | exact runs1 rfl) Ext.refl rfl rfl rfl (fun _ _ _ h _ => h) ?_) | (refine wpY_val rfl rfl (by first | exact runs0 | exact runs1 rfl) Ext.refl rfl ?_; apply Exists.intro; refine ⟨?_, ?_⟩; · (intro a w' hR; (try (intro h1; try have e1 : _ = _ := h1)); (try (intro h2; try have e2 : _ = _ := h2)); (try (intro h3; try have e3 : _ = _ := h3)); go_simp; rfl)) | (refine wpY_skip rfl rfl (by first | exact .inl rfl | exact .inr rfl) ?_))
        refine wpY_val rfl rfl (by first | exact runs0 | exact runs1 rfl) Ext.refl rfl ?_; apply Exists.intro; refine ⟨?_, ?_⟩
        · intro a w' hR h1
          have e1 : _ = _ := h1
          have hl0 := hR.cell c0
          go_simp
          rfl
        refine wpY_call (fun v _ => v = .int .i64 fm) rfl rfl (by first | exact runs0 | exact runs1 rfl) rfl (by exact mono_eq) ?_ ?_
        · intro a w' hR h1 K hK
          have e1 : _ = _ := h1
          go_simp
          refine (HFA.out w').mono ?_
          rintro e w2 ⟨rfl, rfl⟩
          exact hK _ _ (Ext.refl _) rfl
        repeat (first | (refine wpY_move0 rfl rfl (by first | exact runs0 | exact runs1 rfl) Ext.refl rfl rfl rfl ?_; apply Exists.intro; refine ⟨?_, ?_⟩; · (go_simp; rfl)) | (refine wpY_move rfl rfl (by first | exact runs0 | exact runs1 rfl) Ext.refl rfl rfl rfl (fun _ _ _ h _ => h) ?_) | (refine wpY_val rfl rfl (by first | exact runs0 | exact runs1 rfl) Ext.refl rfl ?_; apply Exists.intro; refine ⟨?_, ?_⟩; · (intro a w' hR; (try (intro h1; try have e1 : _ = _ := h1)); (try (intro h2; try have e2 : _ = _ := h2)); (try (intro h3; try have e3 : _ = _ := h3)); go_simp; rfl)) | (refine wpY_skip rfl rfl (by first | exact .inl rfl | exact .inr rfl) ?_))
        refine wpY_val rfl rfl (by first | exact runs0 | exact runs1 rfl) Ext.refl rfl ?_; apply Exists.intro; refine ⟨?_, ?_⟩
        · intro a w' hR h1
          have e1 : _ = _ := h1
          have hl0 := hR.cell c0
          go_simp
          rfl
        refine wpY_call (fun v _ => v = .int .i64 fm) rfl rfl (by first | exact runs0 | exact runs1 rfl) rfl (by exact mono_eq) ?_ ?_
        · intro a w' hR h1 K hK
          have e1 : _ = _ := h1
          go_simp
          refine (HFA.out w').mono ?_
          rintro e w2 ⟨rfl, rfl⟩
          exact hK _ _ (Ext.refl _) rfl
        repeat (first | (refine wpY_move0 rfl rfl (by first | exact runs0 | exact runs1 rfl) Ext.refl rfl rfl rfl ?_; apply Exists.intro; refine ⟨?_, ?_⟩; · (go_simp; rfl)) | (refine wpY_move rfl rfl (by first | exact runs0 | exact runs1 rfl) Ext.refl rfl rfl rfl (fun _ _ _ h _ => h) ?_) | (refine wpY_val rfl rfl (by first | exact runs0 | exact runs1 rfl) Ext.refl rfl ?_; apply Exists.intro; refine ⟨?_, ?_⟩; · (intro a w' hR; (try (intro h1; try have e1 : _ = _ := h1)); (try (intro h2; try have e2 : _ = _ := h2)); (try (intro h3; try have e3 : _ = _ := h3)); go_simp; rfl)) | (refine wpY_skip rfl rfl (by first | exact .inl rfl | exact .inr rfl) ?_))
        refine wpY_val rfl rfl (by first | exact runs0 | exact runs1 rfl) Ext.refl rfl ?_; apply Exists.intro; refine ⟨?_, ?_⟩
        · intro a w' hR h1
          have e1 : _ = _ := h1
          have hl0 := hR.cell c0
          go_simp
          rfl
        repeat (first | (refine wpY_move0 rfl rfl (by first | exact runs0 | exact runs1 rfl) Ext.refl rfl rfl rfl ?_; apply Exists.intro; refine ⟨?_, ?_⟩; · (go_simp; rfl)) | (refine wpY_move rfl rfl (by first | exact runs0 | exact runs1 rfl) Ext.refl rfl rfl rfl (fun _ _ _ h _ => h) ?_) | (refine wpY_val rfl rfl (by first | exact runs0 | exact runs1 rfl) Ext.refl rfl ?_; apply Exists.intro; refine ⟨?_, ?_⟩; · (intro a w' hR; (try (intro h1; try have e1 : _ = _ := h1)); (try (intro h2; try have e2 : _ = _ := h2)); (try (intro h3; try have e3 : _ = _ := h3)); go_simp; rfl)) | (refine wpY_skip rfl rfl (by first | exact .inl rfl | exact .inr rfl) ?_))
        refine wpY_val rfl rfl (by first | exact runs0 | exact runs1 rfl) Ext.refl rfl ?_; apply Exists.intro; refine ⟨?_, ?_⟩
        · intro a w' hR h1
          have e1 : _ = _ := h1
          have hl5 := hR.cell c5
          go_simp
          rfl
        repeat (first | (refine wpY_move0 rfl rfl (by first | exact runs0 | exact runs1 rfl) Ext.refl rfl rfl rfl ?_; apply Exists.intro; refine ⟨?_, ?_⟩; · (go_simp; rfl)) | (refine wpY_move rfl rfl (by first | exact runs0 | exact runs1 rfl) Ext.refl rfl rfl rfl (fun _ _ _ h _ => h) ?_) | (refine wpY_val rfl rfl (by first | exact runs0 | exact runs1 rfl) Ext.refl rfl ?_; apply Exists.intro; refine ⟨?_, ?_⟩; · (intro a w' hR; (try (intro h1; try have e1 : _ = _ := h1)); (try (intro h2; try have e2 : _ = _ := h2)); (try (intro h3; try have e3 : _ = _ := h3)); go_simp; rfl)) | (refine wpY_skip rfl rfl (by first | exact .inl rfl | exact .inr rfl) ?_))
        refine wpY_done ?_
        intro w5 hx5 hS5
        iterate 36 (rintro _ rfl)
        dsimp only [FinV]
        go_simp
        have hx5 : Ext wr w5 := hx5
        have HX5 := Lib.hid (HE.out.trans hx5)
        have HB5 := Lib.hid (HBR.out.ext hx5)
        clear hx5 hS5 c0 c1 c2 c3 c4 c5
        obtain rfl : res = false := HV.out
        go_wp2
        go_ret
        exact ⟨rfl, HX5.out⟩
end Go.Proofs.Ytcacicgkebcdkaa
