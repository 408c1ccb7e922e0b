/-
  GrPutR, packed: what the claim needs of them.
-/
import Derived.Test.YtpmpjjhchkoboaaGreatDoorPb10
import Derived.Test.YtpmpjjhchkoboaaGreatDoorPb11
import Derived.Test.YtpmpjjhchkoboaaGreatDoorPb08
import Derived.Test.YtpmpjjhchkoboaaGreatDoorPb03
set_option linter.unusedSimpArgs false
set_option linter.unusedVariables false
set_option maxRecDepth 100000
namespace Go.Ox.Gr
theorem ndsL_eq {d : Nat} {l : List Nd} (h : PutN d l) : ndsL d l = Num.put l.length ++ l.flatMap fun n => hdrL n ++ ndsL (d - 1) n.body := by
  cases d with
  | zero => cases h; simp [ndsL]
  | succ d => rfl
theorem flat_s {α : Type} (f : α → List UInt8) (l : List α) {k : Nat} (h : k < l.length) : (l.take (k + 1)).flatMap f = (l.take k).flatMap f ++ f l[k] := by
  rw [List.take_succ_eq_append_getElem h, List.flatMap_append]; simp
end Go.Ox.Gr
namespace Go.Proofs.YtpmpjjhchkoboaaGreatDoor
open Go.RowKit Go.Ox Go.Ox.Gr
attribute [local irreducible] RE OE OB RB NodesR
theorem putZ (x : Int) (h : okI x) (w : World) : Calls Tryz.prog 106 #[.int .i64 x] w fun e w' => ∃ v, e = .returned v ∧ OB 5 w.heap.size w' v (Num.put x.toNat) ∧ Ext w w' := by
  obtain ⟨y, rfl⟩ : ∃ y : Nat, x = (y : Int) := ⟨x.toNat, by have := h.1; omega⟩
  exact rput_any y w (by have := h.2; omega)
theorem putZ_len {x : Int} (h : okI x) : (Num.put x.toNat).length ≤ 9 := put_le9 (by have := h.1; have := h.2; omega)
set_option maxHeartbeats 8000000 in
theorem rputN_any : ∀ (d e : Nat) (op kind fa a : Int) (u b : Value) (ins : List Int) (body : List Nd) (w : World), d ≤ 1 → RE w u ins → NodesR e w b body → (okI op ∧ okI kind ∧ okI fa ∧ okI a ∧ ins.length ≤ 100 ∧ ∀ x ∈ ins, okI x) → PutN d body →
    Calls Tryz.prog 107 #[ndAg op kind fa a u b] w fun r w' => ∃ v, r = .returned v ∧ OB 5 w.heap.size w' v (hdrL (.mk op ins kind fa a body) ++ ndsL d body) ∧ Ext w w' := by
  intro d
  induction d using Nat.strongRecOn with
  | ind d ih =>
    intro e op kind fa a u b ins body w hd hu hb hok hpn
    obtain ⟨Au, cu, rfl⟩ := hu.form
    obtain ⟨Ab, cb, rfl⟩ := hb.form
    have HX0 := Lib.hid ((Ext.refl w).alloc (ndCs op kind fa a (.slice Au ins.length cu) (.slice Ab body.length cb)))
    have HB0 := Lib.hid (Bx6.new w 112 (.int .i64 op) (.slice Au ins.length cu) (.int .i64 kind) (.int .i64 fa) (.int .i64 a) (.slice Ab body.length cb))
    have HU := Lib.hid (hu.ext HX0.out)
    have HV := Lib.hid (hb.ext HX0.out)
    have HPO := Lib.hid (fun w => putZ op hok.1 w)
    have HPK := Lib.hid (fun w => putZ kind hok.2.1 w)
    have HPF := Lib.hid (fun w => putZ fa hok.2.2.1 w)
    have HPA := Lib.hid (fun w => putZ a hok.2.2.2.1 w)
    have HPI := Lib.hid (fun w => rput_any ins.length w (by have := hok.2.2.2.2.1; omega))
    have HPB := Lib.hid (fun w => rput_any body.length w (by have := hpn.len; omega))
    have HIN := Lib.hid (fun (k : Nat) (h : k < ins.length) => hok.2.2.2.2.2 ins[k] (List.getElem_mem h))
    have HIL := Lib.hid hok.2.2.2.2.1
    have HBL := Lib.hid hpn.len
    have hp1 := putZ_len hok.1
    have hp2 := putZ_len hok.2.1
    have hp3 := putZ_len hok.2.2.1
    have hp4 := putZ_len hok.2.2.2.1
    have hp5 := put_le9 (n := ins.length) (by have := hok.2.2.2.2.1; omega)
    have hp6 := put_le9 (n := body.length) (by have := hpn.len; omega)
    have HNL := Lib.hid (show ∀ k, (numsL (ins.take k)).length ≤ 900 from fun k => by
      have h1 := numsL_len (ins.take k) fun x hx => hok.2.2.2.2.2 x (List.mem_of_mem_take hx)
      have h2 := hok.2.2.2.2.1
      rw [List.length_take] at h1; omega)
    have HBN := Lib.hid (show ∀ (k : Nat) (h : k < body.length), 0 < d ∧ (okI body[k].op ∧ okI body[k].kind ∧ okI body[k].fa ∧ okI body[k].a ∧ body[k].ins.length ≤ 100 ∧ ∀ x ∈ body[k].ins, okI x) ∧ PutN (d - 1) body[k].body from fun k h => by
      cases d with
      | zero => cases hpn; simp at h
      | succ d => exact ⟨by omega, hpn.2 _ (List.getElem_mem h)⟩)
    have HFL := Lib.hid (show ∀ k, ((body.take k).flatMap (fun n => hdrL n ++ ndsL (d - 1) n.body)).length ≤ 20000000 from fun k => by
      have h1 := flat_le (fun n => hdrL n ++ ndsL (d - 1) n.body) (1000 + capL 1) (body.take k) (fun n hm => by
        cases d with
        | zero => cases hpn; simp at hm
        | succ d =>
          obtain ⟨⟨q1, q2, q3, q4, q5, q6⟩, q7⟩ := hpn.2 n (List.mem_of_mem_take hm)
          have a1 := hdrL_len q1 q2 q3 q4 q5 q6
          have b1 := ndsL_len q7
          have hc : capL d ≤ capL 1 := by
            match d, hd with
            | 0, _ => decide
          rw [List.length_append]
          have : (d + 1 - 1) = d := by omega
          rw [this]; omega)
      have h2 : (body.take k).length * (1000 + capL 1) ≤ 100 * (1000 + capL 1) := Nat.mul_le_mul_right _ (by rw [List.length_take]; have := hpn.len; omega)
      have h3 : 100 * (1000 + capL 1) ≤ 20000000 := by decide
      omega)
    have HEQ := Lib.hid (show hdrL (.mk op ins kind fa a body) ++ ndsL d body = (((((((Num.put op.toNat ++ Num.put ins.length) ++ numsL ins) ++ Num.put kind.toNat) ++ Num.put fa.toNat) ++ Num.put a.toNat) ++ Num.put body.length) ++ body.flatMap (fun n => hdrL n ++ ndsL (d - 1) n.body)) by
      rw [ndsL_eq hpn]
      show (numsL ([op, (ins.length : Int)]) ++ (numsL ins ++ numsL [kind, fa, a])) ++ _ = _
      simp [numsL])
    have IH := Lib.hid (fun (h0 : 0 < d) e op kind fa a u b ins body w => ih (d - 1) (by omega) e op kind fa a u b ins body w (by omega))
    generalize hdrL (.mk op ins kind fa a body) ++ ndsL d body = RES at *
    generalize Num.put op.toNat = pop at *
    generalize Num.put kind.toNat = pki at *
    generalize Num.put fa.toNat = pfa at *
    generalize Num.put a.toNat = paa at *
    generalize hgi : Num.put ins.length = pin at *
    generalize hgb : Num.put body.length = pbo at *
    have HPL := Lib.hid (show pop.length ≤ 9 ∧ pki.length ≤ 9 ∧ pfa.length ≤ 9 ∧ paa.length ≤ 9 ∧ pin.length ≤ 9 ∧ pbo.length ≤ 9 from ⟨hp1, hp2, hp3, hp4, hp5, hp6⟩)
    clear hu hb hok hpn ih hd hgi hgb hp1 hp2 hp3 hp4 hp5 hp6
    go_enter Tryz.func107, Tryz.ntmps107
    go_upto_region 1 with fail
    obtain ⟨p, hp⟩ : ∃ p, p = w.heap.size := ⟨_, rfl⟩
    rw [← hp] at HB0 ⊢
    have HP := Lib.hid (show w.heap.size ≤ (w.alloc (ndCs op kind fa a (.slice Au ins.length cu) (.slice Ab body.length cb))).heap.size from HX0.out.size)
    clear hp
    generalize w.alloc (ndCs op kind fa a (.slice Au ins.length cu) (.slice Ab body.length cb)) = w0 at *
    obtain ⟨c0, c1, c2, c3, c4, c5⟩ := HB0.out.at_
    refine wp_region_tailY 7 [] [] Ext Ext (fun _ => True) (by kernel_rfl) (by kernel_rfl) (by kernel_rfl) (by kernel_rfl) (by kernel_rfl) (by kernel_rfl) (by kernel_rfl) (by rfl) (by rfl) (by kernel_rfl) (by kernel_rfl) (by kernel_rfl) (fun _ _ _ x y => x.trans y) Ext.refl (fun _ _ x => x) (Ext.refl _).drew (fun _ _ x _ => x) trivial ?_
    repeat (first | (refine wpY_move0 rfl rfl (by first | exact runs0 | exact runs1 rfl) Ext.refl rfl rfl rfl ?_; apply Exists.intro; refine ⟨?_, ?_⟩; · (go_simp; rfl)) | (refine wpY_move rfl rfl (by first | exact runs0 | exact runs1 rfl) Ext.refl rfl rfl rfl (fun _ _ _ h _ => h) ?_) | (refine wpY_val rfl rfl (by first | exact runs0 | exact runs1 rfl) Ext.refl rfl ?_; apply Exists.intro; refine ⟨?_, ?_⟩; · (intro a w' hR; (try (intro h1; try have e1 : _ = _ := h1)); (try (intro h2; try have e2 : _ = _ := h2)); (try (intro h3; try have e3 : _ = _ := h3)); go_simp; rfl)) | (refine wpY_skip rfl rfl (by first | exact .inl rfl | exact .inr rfl) ?_))
    refine wpY_val rfl rfl (by first | exact runs0 | exact runs1 rfl) Ext.refl rfl ?_; apply Exists.intro; refine ⟨?_, ?_⟩
    · intro a w' hR h1
      have e1 : _ = _ := h1
      have hl0 := hR.cell c0
      have hl1 := hR.cell c1
      have hl2 := hR.cell c2
      have hl3 := hR.cell c3
      have hl4 := hR.cell c4
      have hl5 := hR.cell c5
      go_simp
      rfl
    refine wpY_call (fun v w2 => OB 5 w0.heap.size w2 v pop) rfl rfl (by first | exact runs0 | exact runs1 rfl) rfl (by first | exact mono_eq | exact (fun _ _ _ h k => Rd.ext h k) | exact (fun _ _ _ h k => RB.ext h k) | exact (fun _ _ _ h k => OB.ext h k) | exact (fun _ _ _ h k => RB.extS h k) | exact (fun _ _ _ h k => Rd.ext h (GrownW.ext k)) | exact (fun _ _ _ h k => RP.ext h k) | exact (fun _ _ _ h k => OP.ext h k) | exact (fun _ _ _ h k => Rd.extV h k) | exact (fun _ _ _ h k => RB.extV h k) | exact (fun _ _ _ h k => E0.ext h k) | exact (fun _ _ _ h k => O0.ext h k) | exact (fun _ _ _ h k => RE.ext h k) | exact (fun _ _ _ h k => RE.extD h k) | exact (fun _ _ _ h _ => h) | exact (fun _ _ _ ⟨n, h1, h2⟩ k => ⟨n, h1, k.st _ _ h2⟩)) ?_ ?_
    · intro a w' hR h1 K hK
      have e1 : _ = _ := h1
      go_simp
      refine (HPO.out w').mono ?_
      rintro e w2 ⟨v, rfl, ho, he⟩
      exact hK _ _ he (ho.low hR.size)
    repeat (first | (refine wpY_move0 rfl rfl (by first | exact runs0 | exact runs1 rfl) Ext.refl rfl rfl rfl ?_; apply Exists.intro; refine ⟨?_, ?_⟩; · (go_simp; rfl)) | (refine wpY_move rfl rfl (by first | exact runs0 | exact runs1 rfl) Ext.refl rfl rfl rfl (fun _ _ _ h _ => h) ?_) | (refine wpY_val rfl rfl (by first | exact runs0 | exact runs1 rfl) Ext.refl rfl ?_; apply Exists.intro; refine ⟨?_, ?_⟩; · (intro a w' hR; (try (intro h1; try have e1 : _ = _ := h1)); (try (intro h2; try have e2 : _ = _ := h2)); (try (intro h3; try have e3 : _ = _ := h3)); go_simp; rfl)) | (refine wpY_skip rfl rfl (by first | exact .inl rfl | exact .inr rfl) ?_))
    refine wpY_val rfl rfl (by first | exact runs0 | exact runs1 rfl) Ext.refl rfl ?_; apply Exists.intro; refine ⟨?_, ?_⟩
    · intro a w' hR h1
      have e1 : _ = _ := h1
      have hl0 := hR.cell c0
      have hl1 := hR.cell c1
      have hl2 := hR.cell c2
      have hl3 := hR.cell c3
      have hl4 := hR.cell c4
      have hl5 := hR.cell c5
      go_simp
      rfl
    refine wpY_val rfl rfl (by first | exact runs0 | exact runs1 rfl) Ext.refl rfl ?_; apply Exists.intro; refine ⟨?_, ?_⟩
    · intro a w' hR h1
      have e1 : _ = _ := h1
      go_simp
      rfl
    refine wpY_call (fun v w2 => OB 5 w0.heap.size w2 v pin) rfl rfl (by first | exact runs0 | exact runs1 rfl) rfl (by first | exact mono_eq | exact (fun _ _ _ h k => Rd.ext h k) | exact (fun _ _ _ h k => RB.ext h k) | exact (fun _ _ _ h k => OB.ext h k) | exact (fun _ _ _ h k => RB.extS h k) | exact (fun _ _ _ h k => Rd.ext h (GrownW.ext k)) | exact (fun _ _ _ h k => RP.ext h k) | exact (fun _ _ _ h k => OP.ext h k) | exact (fun _ _ _ h k => Rd.extV h k) | exact (fun _ _ _ h k => RB.extV h k) | exact (fun _ _ _ h k => E0.ext h k) | exact (fun _ _ _ h k => O0.ext h k) | exact (fun _ _ _ h k => RE.ext h k) | exact (fun _ _ _ h k => RE.extD h k) | exact (fun _ _ _ h _ => h) | exact (fun _ _ _ ⟨n, h1, h2⟩ k => ⟨n, h1, k.st _ _ h2⟩)) ?_ ?_
    · intro a w' hR h1 K hK
      have e1 : _ = _ := h1
      go_simp
      refine (HPI.out w').mono ?_
      rintro e w2 ⟨v, rfl, ho, he⟩
      exact hK _ _ he (ho.low hR.size)
    refine wpY_done ?_
    intro w4 hx hS
    iterate 2 (rintro _ rfl)
    rintro v8 h8
    iterate 3 (rintro _ rfl)
    rintro v12 h12
    dsimp only [FinV]
    go_simp
    clear hS c0 c1 c2 c3 c4 c5
    obtain ⟨A5, k5, rfl⟩ := OB.form h8
    obtain ⟨A8, k8, rfl⟩ := OB.form h12
    have HX4 := Lib.hid hx
    have H5 := Lib.hid (show OB 5 w0.heap.size w4 (.slice A5 pop.length k5) pop from h8)
    have H8 := Lib.hid (show OB 5 w0.heap.size w4 (.slice A8 pin.length k8) pin from h12)
    clear h8 h12 hx
    simp only [thenTail, List.drop_succ_cons, List.drop_zero]
    go_wp2_with (refine wpList_appBB rfl elemB w0 _ (.tmp 8) (.tmp 12) rfl _ pop rfl H5.out HX4.out _ pin rfl H8.out.rb (by have := HPL.out; omega) ?_; intro v9 w9 ho9 he9 hg9; have HO9 := Lib.hid ho9; have HE9 := Lib.hid he9; clear ho9 he9 hg9)
    go_loopw [3, 4] (fun o iv wr => ∃ k : Nat, k ≤ ins.length ∧ iv = .int .i64 (k : Int) ∧ OB 5 w0.heap.size wr o ((pop ++ pin) ++ numsL (ins.take k)) ∧ Ext w0 wr) (fun _ iv _ => ins.length - (intOf iv).toNat)
    case atStart => exact ⟨0, Nat.zero_le _, rfl, by rw [show numsL (ins.take 0) = [] from rfl, List.append_nil]; exact HO9.out, HE9.out⟩
    case round =>
      obtain ⟨k, hk, rfl, ho, hext⟩ := hrel
      have HE := Lib.hid hext
      have HO := Lib.hid ho
      obtain ⟨AO, cO, hvo⟩ := ho.form
      have hk100 : k ≤ 100 := by have := HIL.out; omega
      obtain ⟨c0, c1, c2, c3, c4, c5⟩ := (HB0.out.ext hext).at_
      by_cases hlt : k < ins.length
      · have q1 : (k : Int) < (ins.length : Int) := by omega
        have q0 : 0 ≤ (k : Int) := by omega
        have q1n : k < ins.length := hlt
        have HLT := Lib.hid hlt
        obtain ⟨bI, oI, rfl, z0⟩ := ri1 (RE.ext HU.out hext) hlt
        have HS := Lib.hid (numsL_s ins hlt)
        have HK := Lib.hid (HIN.out k hlt)
        have HLK := Lib.hid (HNL.out k)
        generalize ins[k] = x at *
        have HPX := Lib.hid (fun w => putZ x HK.out w)
        have hp9 := putZ_len HK.out
        replace HLK := Lib.hid (show ((pop ++ pin) ++ numsL (ins.take k)).length + (Num.put x.toNat).length ≤ 1000 by have h1 := HLK.out; have h2 := HPL.out; rw [List.length_append, List.length_append]; omega)
        replace HS := Lib.hid (show (pop ++ pin) ++ numsL (ins.take (k + 1)) = ((pop ++ pin) ++ numsL (ins.take k)) ++ Num.put x.toNat by rw [HS.out]; simp only [List.append_assoc])
        generalize (pop ++ pin) ++ numsL (ins.take k) = lk at *
        generalize Num.put x.toNat = px at *
        subst hvo
        clear ho hext hlt hk hp9
        go_wp2_with fail
        refine (HPX.out _).mono ?_
        rintro e w5 ⟨v5, rfl, ho5, he5⟩
        obtain ⟨A5, k5, rfl⟩ := ho5.form
        have HO5 := Lib.hid ho5
        have HOL := Lib.hid (HO.out.ext he5)
        have HE5 := Lib.hid (HE.out.trans he5)
        clear ho5 he5 c0 c1 c2 c3 c4 c5 z0
        go_wp2_with (refine wpList_appBB rfl elemB w0 _ _ _ rfl _ lk rfl HOL.out HE5.out _ px rfl HO5.out.rb (by have := HLK.out; omega) ?_; intro v9 w9 ho9 he9 hg9; have HO9 := Lib.hid ho9; have HE9 := Lib.hid he9; clear ho9 he9 hg9)
        exact ⟨⟨k + 1, HLT.out, by go_num, by rw [HS.out]; exact HO9.out, HE9.out⟩, by have := HLT.out; simp [intOf]; omega⟩
      · obtain rfl : k = ins.length := by omega
        have q1 : ¬ (ins.length : Int) < (ins.length : Int) := by omega
        have HLK := Lib.hid (HNL.out ins.length)
        rw [List.take_length] at HO ho HLK
        replace HLK := Lib.hid (show ((pop ++ pin) ++ numsL ins).length ≤ 950 by have h1 := HLK.out; have h2 := HPL.out; rw [List.length_append, List.length_append]; omega)
        generalize (pop ++ pin) ++ numsL ins = l0 at *
        obtain ⟨AO, cO, rfl⟩ := ho.form
        have HOX := Lib.hid ho
        clear ho hvo hk hlt
        go_wp2_with fail
        refine (HPK.out _).mono ?_
        rintro e w5 ⟨v5, rfl, ho5, he5⟩
        obtain ⟨A5, k5, rfl⟩ := ho5.form
        have HO5 := Lib.hid ho5
        have HOL := Lib.hid (HOX.out.ext he5)
        have HE5 := Lib.hid (HE.out.trans he5)
        clear ho5 he5 c0 c1 c2 c3 c4 c5
        go_wp2_with (refine wpList_appBB rfl elemB w0 _ _ _ rfl _ l0 rfl HOL.out HE5.out _ pki rfl HO5.out.rb (by have h1 := HLK.out; have h2 := HPL.out; omega) ?_; intro v9 w9 ho9 he9 hg9; obtain ⟨c0, c1, c2, c3, c4, c5⟩ := (HB0.out.ext he9).at_; have HO20 := Lib.hid ho9; have HE20 := Lib.hid he9; clear ho9 hg9 he9)
        replace HLK := Lib.hid (show (l0 ++ pki).length ≤ 959 by have h1 := HLK.out; have h2 := HPL.out; rw [List.length_append]; omega)
        generalize l0 ++ pki = l1 at *
        go_wp2_with fail
        refine (HPF.out _).mono ?_
        rintro e w5 ⟨v5, rfl, ho5, he5⟩
        obtain ⟨A5, k5, rfl⟩ := ho5.form
        have HO5 := Lib.hid ho5
        have HOL := Lib.hid (HO20.out.ext he5)
        have HE5 := Lib.hid (HE20.out.trans he5)
        clear ho5 he5 c0 c1 c2 c3 c4 c5
        go_wp2_with (refine wpList_appBB rfl elemB w0 _ _ _ rfl _ l1 rfl HOL.out HE5.out _ pfa rfl HO5.out.rb (by have h1 := HLK.out; have h2 := HPL.out; omega) ?_; intro v9 w9 ho9 he9 hg9; obtain ⟨c0, c1, c2, c3, c4, c5⟩ := (HB0.out.ext he9).at_; have HO21 := Lib.hid ho9; have HE21 := Lib.hid he9; clear ho9 hg9 he9)
        replace HLK := Lib.hid (show (l1 ++ pfa).length ≤ 968 by have h1 := HLK.out; have h2 := HPL.out; rw [List.length_append]; omega)
        generalize l1 ++ pfa = l2 at *
        go_wp2_with fail
        refine (HPA.out _).mono ?_
        rintro e w5 ⟨v5, rfl, ho5, he5⟩
        obtain ⟨A5, k5, rfl⟩ := ho5.form
        have HO5 := Lib.hid ho5
        have HOL := Lib.hid (HO21.out.ext he5)
        have HE5 := Lib.hid (HE21.out.trans he5)
        clear ho5 he5 c0 c1 c2 c3 c4 c5
        go_wp2_with (refine wpList_appBB rfl elemB w0 _ _ _ rfl _ l2 rfl HOL.out HE5.out _ paa rfl HO5.out.rb (by have h1 := HLK.out; have h2 := HPL.out; omega) ?_; intro v9 w9 ho9 he9 hg9; obtain ⟨c0, c1, c2, c3, c4, c5⟩ := (HB0.out.ext he9).at_; have HO22 := Lib.hid ho9; have HE22 := Lib.hid he9; clear ho9 hg9 he9)
        replace HLK := Lib.hid (show (l2 ++ paa).length ≤ 977 by have h1 := HLK.out; have h2 := HPL.out; rw [List.length_append]; omega)
        generalize l2 ++ paa = l3 at *
        go_wp2_with fail
        refine (HPB.out _).mono ?_
        rintro e w5 ⟨v5, rfl, ho5, he5⟩
        obtain ⟨A5, k5, rfl⟩ := ho5.form
        have HO5 := Lib.hid ho5
        have HOL := Lib.hid (HO22.out.ext he5)
        have HE5 := Lib.hid (HE22.out.trans he5)
        clear ho5 he5 c0 c1 c2 c3 c4 c5
        go_wp2_with (refine wpList_appBB rfl elemB w0 _ _ _ rfl _ l3 rfl HOL.out HE5.out _ pbo rfl HO5.out.rb (by have h1 := HLK.out; have h2 := HPL.out; omega) ?_; intro v9 w9 ho9 he9 hg9; obtain ⟨c0, c1, c2, c3, c4, c5⟩ := (HB0.out.ext he9).at_; have HO23 := Lib.hid ho9; have HE23 := Lib.hid he9; clear ho9 hg9 he9)
        replace HLK := Lib.hid (show (l3 ++ pbo).length ≤ 986 by have h1 := HLK.out; have h2 := HPL.out; rw [List.length_append]; omega)
        generalize l3 ++ pbo = l4 at *
        go_loopw [3, 5] (fun o iv wr => ∃ k : Nat, k ≤ body.length ∧ iv = .int .i64 (k : Int) ∧ OB 5 w0.heap.size wr o (l4 ++ (body.take k).flatMap (fun n => hdrL n ++ ndsL (d - 1) n.body)) ∧ Ext w0 wr) (fun _ iv _ => body.length - (intOf iv).toNat)
        case atStart => exact ⟨0, Nat.zero_le _, rfl, by rw [show (body.take 0).flatMap (fun n => hdrL n ++ ndsL (d - 1) n.body) = [] from rfl, List.append_nil]; exact HO23.out, HE23.out⟩
        case round =>
          obtain ⟨k, hk, rfl, ho, hext⟩ := hrel
          have HEX := Lib.hid hext
          have HOB := Lib.hid ho
          obtain ⟨AP, cP, hvo⟩ := ho.form
          have hk100 : k ≤ 100 := by have := HBL.out; omega
          obtain ⟨c0, c1, c2, c3, c4, c5⟩ := (HB0.out.ext hext).at_
          by_cases hlt : k < body.length
          · have q1 : (k : Int) < (body.length : Int) := by omega
            have q0 : 0 ≤ (k : Int) := by omega
            have q1n : k < body.length := hlt
            have HLT := Lib.hid hlt
            obtain ⟨bA, oA, xu, xb, rfl, e0, e1, e2, e3, e4, e5, hxu, hxb⟩ := (HV.out.ext hext).at_ hlt
            have HS := Lib.hid (flat_s (fun n => hdrL n ++ ndsL (d - 1) n.body) body hlt)
            have HK := Lib.hid (HBN.out k hlt)
            have HF1 := Lib.hid (HFL.out (k + 1))
            rw [HS.out] at HF1
            generalize body[k] = x at *
            obtain ⟨xop, xins, xkind, xfa, xa, xbody⟩ := x
            simp only [Nd.op, Nd.kind, Nd.fa, Nd.a, Nd.ins, Nd.body] at e0 e2 e3 e4 hxu hxb
            have hK : 0 < d ∧ (okI xop ∧ okI xkind ∧ okI xfa ∧ okI xa ∧ xins.length ≤ 100 ∧ ∀ x ∈ xins, okI x) ∧ PutN (d - 1) xbody := HK.out
            have HC := Lib.hid (IH.out hK.1 _ xop xkind xfa xa xu xb xins xbody _ hxu hxb hK.2.1 hK.2.2)
            replace HS := Lib.hid (show l4 ++ (body.take (k + 1)).flatMap (fun n => hdrL n ++ ndsL (d - 1) n.body) = (l4 ++ (body.take k).flatMap (fun n => hdrL n ++ ndsL (d - 1) n.body)) ++ (hdrL (.mk xop xins xkind xfa xa xbody) ++ ndsL (d - 1) xbody) by rw [HS.out]; simp only [List.append_assoc]; rfl)
            replace HF1 := Lib.hid (show (l4 ++ (body.take k).flatMap (fun n => hdrL n ++ ndsL (d - 1) n.body)).length + (hdrL (.mk xop xins xkind xfa xa xbody) ++ ndsL (d - 1) xbody).length ≤ 30000000 by
              have h1 : ((body.take k).flatMap (fun n => hdrL n ++ ndsL (d - 1) n.body) ++ (hdrL (.mk xop xins xkind xfa xa xbody) ++ ndsL (d - 1) xbody)).length ≤ 20000000 := HF1.out
              have h2 := HLK.out
              rw [List.length_append] at h1 ⊢
              omega)
            generalize l4 ++ (body.take k).flatMap (fun n => hdrL n ++ ndsL (d - 1) n.body) = lk at *
            generalize hdrL (.mk xop xins xkind xfa xa xbody) ++ ndsL (d - 1) xbody = lx at *
            obtain ⟨Ax, cx, rfl⟩ := hxu.form
            obtain ⟨Bx, dx, rfl⟩ := hxb.form
            subst hvo
            clear ho hext hlt hk hxu hxb HK hK
            go_wp2_with fail
            refine HC.out.mono ?_
            rintro e w5 ⟨v5, rfl, ho5, he5⟩
            obtain ⟨A5, k5, rfl⟩ := ho5.form
            have HO5 := Lib.hid ho5
            have HOL := Lib.hid (HOB.out.ext he5)
            have HE5 := Lib.hid (HEX.out.trans he5)
            clear ho5 he5 c0 c1 c2 c3 c4 c5 e0 e1 e2 e3 e4 e5
            go_wp2_with (refine wpList_appBB rfl elemB w0 _ _ _ rfl _ lk rfl HOL.out HE5.out _ lx rfl HO5.out.rb (by have := HF1.out; omega) ?_; intro v9 w9 ho9 he9 hg9; have HO9 := Lib.hid ho9; have HE9 := Lib.hid he9; clear ho9 he9 hg9)
            exact ⟨⟨k + 1, HLT.out, by go_num, by rw [HS.out]; exact HO9.out, HE9.out⟩, by have := HLT.out; simp [intOf]; omega⟩
          · obtain rfl : k = body.length := by omega
            have q1 : ¬ (body.length : Int) < (body.length : Int) := by omega
            rw [List.take_length] at HOB ho
            rw [← HEQ.out] at HOB
            clear ho hext hk hlt hvo
            go_wp2
            go_ret
            exact ⟨_, rfl, HOB.out.low HP.out, HX0.out.trans HEX.out⟩
set_option maxHeartbeats 8000000 in
theorem rPutO_any (e : Nat) (v : Value) (l : List Nd) (out : Int) (w : World) (hv : NodesR e w v l) (hpn : PutN 2 l) (ho : okI out) :
    Calls Tryz.prog 60 #[gAg v out] w fun r w' => ∃ u, r = .returned u ∧ OB 5 w.heap.size w' u (grL (l, out)) ∧ Ext w w' := by
  obtain ⟨A, c, rfl⟩ := hv.form
  have HX0 := Lib.hid ((Ext.refl w).alloc (gCs (.slice A l.length c) out))
  have HB0 := Lib.hid (Blk.new w 26 #[.slice A l.length c, .int .i64 out])
  have HV := Lib.hid (hv.ext HX0.out)
  have HPO := Lib.hid (fun w => putZ out ho w)
  have HPI := Lib.hid (fun w => rput_any l.length w (by have := hpn.len; omega))
  have HBL := Lib.hid hpn.len
  have hp1 := putZ_len ho
  have hp5 := put_le9 (n := l.length) (by have := hpn.len; omega)
  have HBN := Lib.hid (show ∀ (k : Nat) (h : k < l.length), (okI l[k].op ∧ okI l[k].kind ∧ okI l[k].fa ∧ okI l[k].a ∧ l[k].ins.length ≤ 100 ∧ ∀ x ∈ l[k].ins, okI x) ∧ PutN 1 l[k].body from fun k h => hpn.2 _ (List.getElem_mem h))
  have HFL := Lib.hid (show ∀ k, ((l.take k).flatMap (fun n => hdrL n ++ ndsL 1 n.body)).length ≤ 20000000 from fun k => by
    have h1 := flat_le (fun n => hdrL n ++ ndsL 1 n.body) (1000 + capL 1) (l.take k) (fun n hm => by
      obtain ⟨⟨q1, q2, q3, q4, q5, q6⟩, q7⟩ := hpn.2 n (List.mem_of_mem_take hm)
      have a1 := hdrL_len q1 q2 q3 q4 q5 q6
      have b1 : (ndsL 1 n.body).length ≤ capL 1 := ndsL_len (d := 1) q7
      show (hdrL n ++ ndsL 1 n.body).length ≤ 1000 + capL 1
      rw [List.length_append]
      omega)
    have h2 : (l.take k).length * (1000 + capL 1) ≤ 100 * (1000 + capL 1) := Nat.mul_le_mul_right _ (by rw [List.length_take]; have := hpn.len; omega)
    have h3 : 100 * (1000 + capL 1) ≤ 20000000 := by decide
    omega)
  have HEQ := Lib.hid (show grL (l, out) = (Num.put l.length ++ l.flatMap (fun n => hdrL n ++ ndsL 1 n.body)) ++ Num.put out.toNat from rfl)
  generalize grL (l, out) = RES at *
  generalize Num.put out.toNat = po at *
  generalize hgi : Num.put l.length = l4 at *
  have HLK := Lib.hid (show po.length ≤ 9 ∧ l4.length ≤ 9 from ⟨hp1, hp5⟩)
  have IH := Lib.hid (rputN_any 1)
  clear hv hpn ho hgi hp1 hp5
  go_enter Tryz.func60, Tryz.ntmps60
  go_upto_region 1 with fail
  obtain ⟨p, hp⟩ : ∃ p, p = w.heap.size := ⟨_, rfl⟩
  rw [← hp] at HB0 ⊢
  clear hp
  generalize w.alloc (gCs (.slice A l.length c) out) = w0 at *
  have c0 : w0.cell? ⟨p, 0, none⟩ = some (.slice A l.length c) := HB0.out.cell 0
  have c1 : w0.cell? ⟨p, 1, none⟩ = some (.int .i64 out) := HB0.out.cell 1
  go_wp2_with fail
  refine (HPI.out _).mono ?_
  rintro e w9 ⟨v9, rfl, ho9, he9⟩
  have HO9 := Lib.hid ho9
  have HE9 := Lib.hid he9
  clear ho9 he9 c0 c1
  go_wp2
  go_loopw [3, 4] (fun o iv wr => ∃ k : Nat, k ≤ l.length ∧ iv = .int .i64 (k : Int) ∧ OB 5 w0.heap.size wr o (l4 ++ (l.take k).flatMap (fun n => hdrL n ++ ndsL 1 n.body)) ∧ Ext w0 wr) (fun _ iv _ => l.length - (intOf iv).toNat)
  case atStart => exact ⟨0, Nat.zero_le _, rfl, by rw [show (l.take 0).flatMap (fun n => hdrL n ++ ndsL 1 n.body) = [] from rfl, List.append_nil]; exact HO9.out, HE9.out⟩
  case round =>
    obtain ⟨k, hk, rfl, ho, hext⟩ := hrel
    have HEX := Lib.hid hext
    have HOB := Lib.hid ho
    obtain ⟨AP, cP, hvo⟩ := ho.form
    have hk100 : k ≤ 100 := by have := HBL.out; omega
    have c0 : wr.cell? ⟨p, 0, none⟩ = some (.slice A l.length c) := (HB0.out.ext hext).cell 0
    have c1 : wr.cell? ⟨p, 1, none⟩ = some (.int .i64 out) := (HB0.out.ext hext).cell 1
    by_cases hlt : k < l.length
    · have q1 : (k : Int) < (l.length : Int) := by omega
      have q0 : 0 ≤ (k : Int) := by omega
      have q1n : k < l.length := hlt
      have HLT := Lib.hid hlt
      obtain ⟨bA, oA, xu, xb, rfl, e0, e1, e2, e3, e4, e5, hxu, hxb⟩ := (HV.out.ext hext).at_ hlt
      have HS := Lib.hid (flat_s (fun n => hdrL n ++ ndsL 1 n.body) l hlt)
      have HK := Lib.hid (HBN.out k hlt)
      have HF1 := Lib.hid (HFL.out (k + 1))
      rw [HS.out] at HF1
      generalize l[k] = x at *
      obtain ⟨xop, xins, xkind, xfa, xa, xbody⟩ := x
      simp only [Nd.op, Nd.kind, Nd.fa, Nd.a, Nd.ins, Nd.body] at e0 e2 e3 e4 hxu hxb
      have hK : (okI xop ∧ okI xkind ∧ okI xfa ∧ okI xa ∧ xins.length ≤ 100 ∧ ∀ x ∈ xins, okI x) ∧ PutN 1 xbody := HK.out
      have HC := Lib.hid (IH.out _ xop xkind xfa xa xu xb xins xbody _ (Nat.le_refl _) hxu hxb hK.1 hK.2)
      replace HS := Lib.hid (show l4 ++ (l.take (k + 1)).flatMap (fun n => hdrL n ++ ndsL 1 n.body) = (l4 ++ (l.take k).flatMap (fun n => hdrL n ++ ndsL 1 n.body)) ++ (hdrL (.mk xop xins xkind xfa xa xbody) ++ ndsL 1 xbody) by rw [HS.out]; simp only [List.append_assoc]; rfl)
      replace HF1 := Lib.hid (show (l4 ++ (l.take k).flatMap (fun n => hdrL n ++ ndsL 1 n.body)).length + (hdrL (.mk xop xins xkind xfa xa xbody) ++ ndsL 1 xbody).length ≤ 30000000 by
        have h1 : ((l.take k).flatMap (fun n => hdrL n ++ ndsL 1 n.body) ++ (hdrL (.mk xop xins xkind xfa xa xbody) ++ ndsL 1 xbody)).length ≤ 20000000 := HF1.out
        have h2 := HLK.out
        rw [List.length_append] at h1 ⊢
        omega)
      generalize l4 ++ (l.take k).flatMap (fun n => hdrL n ++ ndsL 1 n.body) = lk at *
      generalize hdrL (.mk xop xins xkind xfa xa xbody) ++ ndsL 1 xbody = lx at *
      obtain ⟨Ax, cx, rfl⟩ := hxu.form
      obtain ⟨Bx, dx, rfl⟩ := hxb.form
      subst hvo
      clear ho hext hlt hk hxu hxb HK hK
      go_wp2_with fail
      refine HC.out.mono ?_
      rintro e w5 ⟨v5, rfl, ho5, he5⟩
      obtain ⟨A5, k5, rfl⟩ := ho5.form
      have HO5 := Lib.hid ho5
      have HOL := Lib.hid (HOB.out.ext he5)
      have HE5 := Lib.hid (HEX.out.trans he5)
      clear ho5 he5 c0 c1 e0 e1 e2 e3 e4 e5
      go_wp2_with (refine wpList_appBB rfl elemB w0 _ _ _ rfl _ lk rfl HOL.out HE5.out _ lx rfl HO5.out.rb (by have := HF1.out; omega) ?_; intro v9 w9 ho9 he9 hg9; have HO9 := Lib.hid ho9; have HE9 := Lib.hid he9; clear ho9 he9 hg9)
      exact ⟨⟨k + 1, HLT.out, by go_num, by rw [HS.out]; exact HO9.out, HE9.out⟩, by have := HLT.out; simp [intOf]; omega⟩
    · obtain rfl : k = l.length := by omega
      have q1 : ¬ (l.length : Int) < (l.length : Int) := by omega
      have HF1 := Lib.hid (HFL.out l.length)
      rw [List.take_length] at HOB ho HF1
      replace HF1 := Lib.hid (show (l4 ++ l.flatMap (fun n => hdrL n ++ ndsL 1 n.body)).length + po.length ≤ 30000000 by
        have h1 := HF1.out
        have h2 := HLK.out
        rw [List.length_append]; omega)
      generalize l4 ++ l.flatMap (fun n => hdrL n ++ ndsL 1 n.body) = lk at *
      obtain ⟨AO, cO, rfl⟩ := ho.form
      clear ho hext hk hlt hvo
      go_wp2_with fail
      refine (HPO.out _).mono ?_
      rintro e w5 ⟨v5, rfl, ho5, he5⟩
      obtain ⟨A5, k5, rfl⟩ := ho5.form
      have HO5 := Lib.hid ho5
      have HOL := Lib.hid (HOB.out.ext he5)
      have HE5 := Lib.hid (HEX.out.trans he5)
      clear ho5 he5 c0 c1
      go_wp2_with (refine wpList_appBB rfl elemB w0 _ _ _ rfl _ lk rfl HOL.out HE5.out _ po rfl HO5.out.rb (by have := HF1.out; omega) ?_; intro v9 w9 ho9 he9 hg9; rw [← HEQ.out] at ho9; have HO9 := Lib.hid ho9; have HE9 := Lib.hid he9; clear ho9 he9 hg9)
      go_ret
      exact ⟨_, rfl, HO9.out.low HX0.out.size, HX0.out.trans HE9.out⟩
end Go.Proofs.YtpmpjjhchkoboaaGreatDoor
