/-
  PlDel, packed: what the claim needs of them.
-/
import Derived.Test.YtcacicgkebcdkaaPe09
import Derived.Test.YtcacicgkebcdkaaPe06
import Derived.Test.YtcacicgkebcdkaaPe17
import Derived.Test.YtcacicgkebcdkaaPe14
set_option linter.unusedSimpArgs false
set_option linter.unusedVariables false
set_option maxRecDepth 100000
namespace Go.Proofs.Ytcacicgkebcdkaa
open Go.RowKit Go.Ox Go.Shelf Go.Ox.Gr
set_option maxHeartbeats 1000000 in
theorem idxPl_any {σ : Type} (del : σ → Gr.Pl → Bool × σ) (g : Nat) (lb : Array Value) (eg : ∀ args w, (callFunc g args).run Try.prog w = .ok (.enter g args) w) (J : σ → World → Prop) (Q : Nat → Prop)
        (v : Value) (l : List (Gr.Pl)) (w : World) (hv : RE w v l) (hoff : OffQ Q v l.length) (s : σ) (hJ : J s w) (hl : l.length ≤ 1000000000)
    (hcl : ∀ (j : Nat) (hj : j < l.length) W, J (stS del s (l.take j)) W → Calls Try.prog g (#[plV l[j]] ++ lb) W fun e W' => e = .returned (.bool (del (stS del s (l.take j)) l[j]).1) ∧ J (stS del s (l.take (j + 1))) W' ∧ ExtQ Q W W') :
    Calls Try.prog 61 #[v, .func (.func g) #[] lb] w fun e w' => ∃ k, k ≤ l.length ∧ keepS del s (l.take k) = l.take k ∧ ExtQ Q w w' ∧
      ((k = l.length ∧ e = .returned (.int .i64 (-1)) ∧ J (stS del s l) w') ∨ (∃ hk : k < l.length, e = .returned (.int .i64 (k : Int)) ∧ (del (stS del s (l.take k)) l[k]).1 = true ∧ J (stS del s (l.take (k + 1))) w')) := by
  obtain ⟨A, c, rfl⟩ := hv.form
  have HV := Lib.hid hv
  have HOFF := Lib.hid hoff
  have HCL := Lib.hid hcl
  have HJ := Lib.hid hJ
  clear hv hoff hcl hJ
  go_enter Try.func61, Try.ntmps61
  go_wp2
  go_loopw [8] (fun iv wr => ∃ k : Nat, k ≤ l.length ∧ iv = .int .i64 k ∧ keepS del s (l.take k) = l.take k ∧ J (stS del s (l.take k)) wr ∧ ExtQ Q w wr) (fun iv _ => l.length - (intOf iv).toNat)
  case atStart => exact ⟨0, Nat.zero_le _, rfl, by simp [keepS], by simpa [stS] using HJ.out, ExtQ.refl _ _⟩
  case round =>
    obtain ⟨k, hk, rfl, hkp, hj, hext⟩ := hrel
    have HKP := Lib.hid hkp
    have HJK := Lib.hid hj
    have HE := Lib.hid hext
    clear hkp hj
    by_cases hlt : k < l.length
    · have g1 : (k : Int) < (l.length : Int) := by omega
      have g0 : 0 ≤ (k : Int) := by omega
      have hvr := Rd.extQ HV.out hext HOFF.out
      have hvr : RE wr (.slice A l.length c) l := hvr
      obtain ⟨bA, oA, rfl, hcA⟩ := hvr.at_ (i := k) hlt
      have HT := Lib.hid (keepS_take_f (del := del) hlt s)
      have HS := Lib.hid (stS_take (del := del) hlt s)
      have HLT := Lib.hid hlt
      have HTK := Lib.hid (List.take_succ_eq_append_getElem hlt)
      have HCX := Lib.hid (fun W h => HCL.out k hlt W h)
      have HRES := Lib.hid (show ∀ W e, (del (stS del s (l.take k)) l[k]).1 = true → e = Ending.returned (.int .i64 (k : Int)) → J (stS del s (l.take (k + 1))) W → ExtQ Q w W → _ from fun W e h1 h2 h3 h4 => (⟨k, hk, HKP.out, h4, .inr ⟨hlt, h2, h1, h3⟩⟩ : ∃ k, k ≤ l.length ∧ keepS del s (l.take k) = l.take k ∧ ExtQ Q w W ∧
        ((k = l.length ∧ e = .returned (.int .i64 (-1)) ∧ J (stS del s l) W) ∨ (∃ hk : k < l.length, e = .returned (.int .i64 (k : Int)) ∧ (del (stS del s (l.take k)) l[k]).1 = true ∧ J (stS del s (l.take (k + 1))) W))))
      generalize l[k] = x at *
      clear hext hvr hlt
      obtain ⟨x1, x2⟩ := x
      have c0 : wr.cell? ⟨bA, oA + k * 2, none⟩ = some (.int .i64 x1) := hcA 0 _ rfl
      have c1 : wr.cell? ⟨bA, oA + k * 2 + 1, none⟩ = some (.int .i64 x2) := hcA 1 _ rfl
      clear hcA
      obtain ⟨s2, hs2⟩ : ∃ s2, stS del s (l.take (k + 1)) = s2 := ⟨_, rfl⟩
      rw [hs2] at HS HRES HCX
      have HS2 := Lib.hid hs2
      clear hs2
      generalize stS del s (l.take k) = s1 at *
      cases hd : (del s1 ⟨x1, x2⟩).1 with
      | true =>
        rw [hd] at HCX HRES
        clear hd
        go_wp2_with fail
        refine (HCX.out _ HJK.out).mono ?_
        rintro e w1 ⟨rfl, hj1, he1⟩
        go_wp2
        go_ret
        exact HRES.out _ _ (by first | rfl | trivial) rfl hj1 (HE.out.trans he1)
      | false =>
        rw [hd] at HCX
        have HT2 := Lib.hid (HT.out hd)
        clear hd HRES
        go_wp2_with fail
        refine (HCX.out _ HJK.out).mono ?_
        rintro e w1 ⟨rfl, hj1, he1⟩
        go_wp2
        exact ⟨⟨k + 1, HLT.out, by go_num, by rw [HT2.out, HTK.out, HKP.out], by rw [HS2.out]; exact hj1, HE.out.trans he1⟩, by have := HLT.out; simp [intOf]; omega⟩
    · obtain rfl : k = l.length := by omega
      have g1 : ¬ (l.length : Int) < (l.length : Int) := by omega
      clear hext
      go_wp2
      go_ret
      exact ⟨l.length, Nat.le_refl _, HKP.out, HE.out, .inl ⟨rfl, rfl, by have := HJK.out; rwa [List.take_length] at this⟩⟩
set_option maxHeartbeats 2000000 in
theorem delPls_any {σ : Type} (del : σ → Gr.Pl → Bool × σ) (g : Nat) (lb : Array Value) (eg : ∀ args w, (callFunc g args).run Try.prog w = .ok (.enter g args) w) (J : σ → World → Prop) (Q : Nat → Prop)
        (b base : Nat) (hJk : ∀ s W W', J s W → ExtQ (fun k => k = b) W W' → J s W') (hQb : ¬ Q b)
    (v : Value) (l : List (Gr.Pl)) (w : World) (hown : OE 26 base w v l) (hvb : ∀ k, v.ownBlock = some k → k = b) (hQ : ∀ k, Q k → k < w.heap.size) (s : σ) (hJ : J s w) (hl : l.length ≤ 1000000000)
    (hcl : ∀ (j : Nat) (hj : j < l.length) W, J (stS del s (l.take j)) W → Calls Try.prog g (#[plV l[j]] ++ lb) W fun e W' => e = .returned (.bool (del (stS del s (l.take j)) l[j]).1) ∧ J (stS del s (l.take (j + 1))) W' ∧ ExtQ Q W W') :
    Calls Try.prog 37 #[v, .func (.func g) #[] lb] w fun e w' => ∃ v', e = .returned v' ∧ OE 26 base w' v' (keepS del s l) ∧ (v'.ownBlock = none ∨ v'.ownBlock = some b) ∧ J (stS del s l) w' ∧ ExtQ (fun k => Q k ∨ k = b) w w' := by
  have HIX := Lib.hid (idxPl_any del g lb eg J Q v l w hown.re (off_own hown.own fun k hk h => hQb (by rw [← hvb k hk]; exact h)) s hJ hl hcl)
  have HOWN := Lib.hid hown
  rcases hown.open_ with ⟨rfl, rfl⟩ | ⟨b', cap, cur, rfl, hbb, hblk, hnc, hcm, hcs, hhas⟩
  · clear hcl hJk
    go_enter Try.func37, Try.ntmps37
    go_wp2_with fail
    refine HIX.out.mono ?_
    rintro e w1 ⟨k, hk, hkp, he1, hr⟩
    rcases hr with ⟨hkl, rfl, hj⟩ | ⟨hlt, rfl, hd, hj⟩
    · go_wp2
      go_ret
      exact ⟨_, rfl, OE.nilS _ _ _, .inl rfl, hj, he1.mono fun k h => .inl h⟩
    · simp at hlt
  · obtain rfl : b' = b := hvb b' rfl
    have HCL := Lib.hid hcl
    have HJK := Lib.hid hJk
    have HQB := Lib.hid hQb
    have HQ := Lib.hid hQ
    have HHAS := Lib.hid hhas
    have HBLK := Lib.hid hblk
    have HBB := Lib.hid hbb
    have HCS := Lib.hid hcs
    have HCM := Lib.hid hcm
    clear hcl hJk hQb hJ hhas hblk hown hQ hvb hbb hcs hcm
    go_enter Try.func37, Try.ntmps37
    go_wp2_with fail
    refine HIX.out.mono ?_
    rintro e w1 ⟨k, hk, hkp, he1, hr⟩
    have HE1 := Lib.hid he1
    have HKP := Lib.hid hkp
    clear he1 hkp HIX
    rcases hr with ⟨hkl, rfl, hj⟩ | ⟨hlt, rfl, hd, hj⟩
    · have HJ := Lib.hid hj
      clear hj
      go_wp2
      go_ret
      refine ⟨_, rfl, ?_, .inr rfl, HJ.out, HE1.out.mono fun k h => .inl h⟩
      have h9 := HKP.out
      rw [hkl, List.take_length] at h9
      rw [h9]
      exact ownsRow_extQ HOWN.out.own HE1.out (fun k hk h => HQB.out ((show b' = k from Option.some.inj hk) ▸ h))
    · have hne1 : ((k : Int) == -1) = false := beq_eq_false_iff_ne.2 (by omega)
      have HJ := Lib.hid hj
      have HKT := Lib.hid (keepS_take_t (del := del) hlt s hd)
      have HLT := Lib.hid hlt
      clear hj hd hlt
      go_wp2
      go_loopw [5, 6, 7] (fun s5 s6 _ wr => ∃ (i j : Nat) (cu : Array Value), s5 = .int .i64 i ∧ s6 = .int .i64 j ∧ i < j ∧ j ≤ l.length ∧ (keepS del s (l.take j)).length = i ∧ Blk wr b' 26 cu ∧ cu.size = cap * 2 ∧ Has cu 0 (eV (keepS del s (l.take j))) ∧ Has cu (j * 2) (eV (l.drop j)) ∧
        J (stS del s (l.take j)) wr ∧ ExtQ (fun k => Q k ∨ k = b') w wr) (fun _ s6 _ _ => l.length - (intOf s6).toNat)
      case atStart =>
        have h9 := HKT.out
        refine ⟨k, k + 1, cur, rfl, by go_num, by omega, HLT.out, ?_, HBLK.out.extQ HE1.out HQB.out, HCS.out, ?_, ?_, HJ.out, HE1.out.mono fun k h => .inl h⟩
        · rw [h9, HKP.out, List.length_take]; have := HLT.out; omega
        · rw [h9, HKP.out, ← eV_take]
          intro j u hu
          rw [List.getElem?_take] at hu
          split at hu
          · exact HHAS.out j u hu
          · cases hu
        · rw [← eV_drop]
          exact HHAS.out.drop (by rw [Nat.zero_add]; rfl)
      case round =>
        obtain ⟨i, j, cu, rfl, rfl, hij, hj, hki, hb, hcs2, hA, hB, hJ2, hext⟩ := hrel
        have HB0 := Lib.hid hb
        have HKI := Lib.hid hki
        have HCU := Lib.hid hcs2
        have HA := Lib.hid hA
        have HB := Lib.hid hB
        have HJ2 := Lib.hid hJ2
        have HE := Lib.hid hext
        clear hb hcs2 hA hB hJ2 hext hki
        by_cases hlt : j < l.length
        · have g1 : (j : Int) < (l.length : Int) := by omega
          have g0 : 0 ≤ (j : Int) := by omega
          have g2 : (i : Int) < (l.length : Int) := by omega
          have g3 : 0 ≤ (i : Int) := by omega
          have hcA := fun (t : Nat) (u : Value) (hu : (Enc.enc l[j])[t]? = some u) => HB0.out.get HB.out (eV_head hlt hu)
          have HT := Lib.hid (keepS_take_t (del := del) hlt s)
          have HF := Lib.hid (keepS_take_f (del := del) hlt s)
          have HS := Lib.hid (stS_take (del := del) hlt s)
          have HLT2 := Lib.hid hlt
          have HCX := Lib.hid (fun W h => HCL.out j hlt W h)
          have HDR : Hid (Has cu ((j + 1) * 2) (eV (l.drop (j + 1)))) := Lib.hid (by
            have h8 := HB.out.drop (n := 1 * Enc.k (Gr.Pl)) (q := (j + 1) * 2) (by show (j + 1) * 2 = j * 2 + 1 * 2; omega)
            rwa [eV_drop, List.drop_drop] at h8)
          generalize l[j] = x at *
          obtain ⟨x1, x2⟩ := x
          have c0 : wr.cell? ⟨b', j * 2, none⟩ = some (.int .i64 x1) := hcA 0 _ rfl
          have c1 : wr.cell? ⟨b', j * 2 + 1, none⟩ = some (.int .i64 x2) := hcA 1 _ rfl
          clear hcA hlt
          obtain ⟨s2, hs2⟩ : ∃ s2, stS del s (l.take (j + 1)) = s2 := ⟨_, rfl⟩
          rw [hs2] at HS HCX
          have HS2 := Lib.hid hs2
          clear hs2
          generalize stS del s (l.take j) = s1 at *
          have hxl : Ext wr (wr.alloc (.cells #[.int .i64 x1, .int .i64 x2] 26)) := (Ext.refl _).alloc _
          have HXL := Lib.hid hxl
          have HBX := Lib.hid (Blk.new wr 26 #[.int .i64 x1, .int .i64 x2])
          have HJX := Lib.hid (HJK.out _ _ _ HJ2.out (ExtQ.of hxl))
          clear hxl
          have HNQ : Hid (¬ Q wr.heap.size) := Lib.hid (fun h => by have := HQ.out _ h; have := HE.out.size; omega)
          cases hd : (del s1 ⟨x1, x2⟩).1 with
          | false =>
            rw [hd] at HCX
            have HF2 := Lib.hid (HF.out hd)
            clear hd HT HF
            go_wp2_with fail
            refine (HCX.out _ HJX.out).mono ?_
            rintro e w2 ⟨rfl, hj1, he2⟩
            have HJ3 := Lib.hid hj1
            have HE2 := Lib.hid he2
            have HB2 := Lib.hid ((HB0.out.ext HXL.out).extQ he2 HQB.out)
            have hbx := HBX.out.extQ he2 HNQ.out
            clear hj1 he2
            have d0 : w2.cell? ⟨wr.heap.size, 0, none⟩ = some (.int .i64 x1) := hbx.cell 0
            have d1 : w2.cell? ⟨wr.heap.size, 1, none⟩ = some (.int .i64 x2) := hbx.cell 1
            clear hbx
            obtain ⟨o0, ho0⟩ : ∃ u, w2.cell? ⟨b', i * 2, none⟩ = some u := ⟨_, (HB2.out.cell _).trans (Array.getElem?_eq_getElem (by have := HCU.out; omega))⟩
            have hf0 := HB2.out.frozen (i * 2)
            obtain ⟨o1, ho1⟩ : ∃ u, w2.cell? ⟨b', i * 2 + 1, none⟩ = some u := ⟨_, (HB2.out.cell _).trans (Array.getElem?_eq_getElem (by have := HCU.out; omega))⟩
            have hf1 := HB2.out.frozen (i * 2 + 1)
            go_wp2
            have h5 : Blk ((w2.setCell ⟨b', i * 2, none⟩ (.int .i64 x1)).setCell ⟨b', i * 2 + 1, none⟩ (.int .i64 x2)) b' 26 (setL cu (i * 2) [.int .i64 x1, .int .i64 x2]) := Blk.setCells (w := w2) [.int .i64 x1, .int .i64 x2] (i * 2) HB2.out
            have hx5 : ExtQ (fun k => k = b') w2 ((w2.setCell ⟨b', i * 2, none⟩ (.int .i64 x1)).setCell ⟨b', i * 2 + 1, none⟩ (.int .i64 x2)) := ExtQ.setCells (Q := fun k => k = b') (g := b') (ExtQ.refl _ _) rfl [.int .i64 x1, .int .i64 x2] (i * 2)
            generalize ((w2.setCell ⟨b', i * 2, none⟩ (.int .i64 x1)).setCell ⟨b', i * 2 + 1, none⟩ (.int .i64 x2)) = w5 at *
            have hsz : (setL cu (i * 2) [.int .i64 x1, .int .i64 x2]).size = cap * 2 := by rw [setL_size]; exact HCU.out
            have h1 := setL_in [.int .i64 x1, .int .i64 x2] cu (i * 2) (by have := HCU.out; simp; omega)
            have h2 := HA.out.out (q := i * 2) (ds := [.int .i64 x1, .int .i64 x2]) (.inl (by rw [eV_len, HKI.out]; show 0 + i * 2 ≤ _; omega))
            have h3 := HDR.out.out (q := i * 2) (ds := [.int .i64 x1, .int .i64 x2]) (.inr (by simp; omega))
            refine ⟨⟨i + 1, j + 1, _, by go_num, by go_num, by omega, HLT2.out, by rw [HF2.out, List.length_append, HKI.out]; rfl, h5, hsz, ?_, h3, by rw [HS2.out]; exact HJK.out _ _ _ HJ3.out hx5, ?_⟩, by have := HLT2.out; simp [intOf]; omega⟩
            · rw [HF2.out, eV_app]
              exact h2.app h1 (by rw [eV_len, HKI.out]; show _ = 0 + i * 2; omega)
            · exact ((HE.out.trans (ExtQ.of HXL.out)).trans (HE2.out.mono fun k h => .inl h)).trans (hx5.mono fun k h => .inr h)
          | true =>
            rw [hd] at HCX
            have HT2 := Lib.hid (HT.out hd)
            clear hd HT HF
            go_wp2_with fail
            refine (HCX.out _ HJX.out).mono ?_
            rintro e w2 ⟨rfl, hj1, he2⟩
            have HJ3 := Lib.hid hj1
            have HE2 := Lib.hid he2
            have HB2 := Lib.hid ((HB0.out.ext HXL.out).extQ he2 HQB.out)
            clear hj1 he2
            go_wp2
            exact ⟨⟨i, j + 1, cu, rfl, by go_num, by omega, HLT2.out, by rw [HT2.out]; exact HKI.out, HB2.out, HCU.out, by rw [HT2.out]; exact HA.out, HDR.out, by rw [HS2.out]; exact HJ3.out,
              (HE.out.trans (ExtQ.of HXL.out)).trans (HE2.out.mono fun k h => .inl h)⟩, by have := HLT2.out; simp [intOf]; omega⟩
        · obtain rfl : j = l.length := by omega
          have g1 : ¬ (l.length : Int) < (l.length : Int) := by omega
          have hlo := fun w => run_lo_at elemPl (b := b') (n := l.length) (c := cap) (k := i) hij hnc w
          have hhi := fun w => run_hi_at elemPl (b := b') (n := l.length) (c := cap) (k := i) (by omega) w
          obtain ⟨zs, hzs, hcl⟩ := run_clearK elemPl (by decide) HB0.out (o := i * 2) (n := l.length - i) (c := cap - i) (by omega) (by rw [HCU.out]; omega)
          have HZS := Lib.hid hzs
          clear hzs
          go_wp2
          go_ret
          have hx5 : ExtQ (fun k => k = b') wr (wr.setCells b' (i * 2) zs) := ExtQ.setCells (Q := fun k => k = b') (g := b') (ExtQ.refl _ _) rfl zs (i * 2)
          have h5 := Blk.setCells (w := wr) zs (i * 2) HB0.out
          have h2 := HA.out.out (q := i * 2) (ds := zs) (.inl (by rw [eV_len, HKI.out]; show 0 + i * 2 ≤ _; omega))
          rw [List.take_length] at *
          refine ⟨_, rfl, OE.shut HKI.out HBB.out h5 (by omega) HCM.out (by rw [setL_size]; exact HCU.out) h2, .inr rfl, HJK.out _ _ _ HJ2.out hx5, HE.out.trans (hx5.mono fun k h => .inr h)⟩
end Go.Proofs.Ytcacicgkebcdkaa
