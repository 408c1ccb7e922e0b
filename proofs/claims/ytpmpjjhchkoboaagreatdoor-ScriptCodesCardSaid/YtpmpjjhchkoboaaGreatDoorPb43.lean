/-
  ScrEncR, packed: what the claim needs of them.
-/
import Derived.Test.YtpmpjjhchkoboaaGreatDoorPb27
import Derived.Test.YtpmpjjhchkoboaaGreatDoorPb41
import Derived.Test.YtpmpjjhchkoboaaGreatDoorPb20
set_option linter.unusedSimpArgs false
set_option linter.unusedVariables false
set_option maxRecDepth 100000
namespace Go.Ox
open Go.RowKit
structure OX (v : Value) (w : World) (v' : Value) (w' : World) : Prop where
  x : ExtQ (fun k => v.ownBlock = some k) w w'
  own : ∀ k, v'.ownBlock = some k → v.ownBlock = some k ∨ w.heap.size ≤ k
section
variable {B T : Nat} {w w' w2 : World} {v v' v2 : Value} {l m : List UInt8}
theorem OX.refl (v : Value) (w : World) : OX v w v w := ⟨ExtQ.refl _ _, fun _ h => .inl h⟩
theorem OX.trans (h : OX v w v' w') (k : OX v' w' v2 w2) : OX v w v2 w2 :=
  ⟨⟨k.x.os.trans h.x.os, k.x.tape.trans h.x.tape, k.x.output.trans h.x.output, Nat.le_trans h.x.size k.x.size, fun j hj hn => (k.x.block j (Nat.lt_of_lt_of_le hj h.x.size) (fun q => by
      rcases h.own j q with r | r
      · exact hn r
      · omega)).trans (h.x.block j hj hn)⟩,
    fun j hj => by
      rcases k.own j hj with q | q
      · exact h.own j q
      · exact .inr (Nat.le_trans h.x.size q)⟩
theorem OX.of (h : Ext w w') : OX v w v w' := ⟨ExtQ.of h, fun _ q => .inl q⟩
theorem OX.ext (h : OX v w v' w') (he : Ext w' w2) : OX v w v' w2 := h.trans (OX.of he)
theorem OX.more (h : OX v w v' w') (hW : ExtQ (fun k => v'.ownBlock = some k) w' w2) : OX v w v' w2 := h.trans ⟨hW, fun _ q => .inl q⟩
theorem OX.old {w0 : World} (h : OX v w v' w') (he : Ext w0 w) (ho : OB T w0.heap.size w v l) : Ext w0 w' :=
  he.andQ h.x fun k hk => (ho.own.lt k hk).1
theorem OX.app (ha : Appended w w' B T 1 v v' l.length m.length (l.map byteV) (m.map byteV)) : OX v w v' w' :=
  ⟨ExtQ.grown ha.grown fun k hk => hk, fun k hk => by
    rcases ha.at_ with q | q
    · rw [q] at hk; exact .inl hk
    · rw [q] at hk; injection hk with hk; exact .inr (by omega)⟩
end
theorem own_stI {v u : Value} {w w' : World} {B C E T : Nat} {l : List UInt8} {ns : List Int} (h : OB T B w v l) (hv : OE E C w' u ns) (hC : w.heap.size ≤ C) :
    ∀ W, ExtQ (fun k => v.ownBlock = some k) w' W → RE W u ns := fun W hW =>
  (OE.mk (ownsRow_extQ hv.own hW fun k hk q => by
    have h1 := (hv.own.lt k hk).1
    have := (h.own.lt k q).2; omega)).re
theorem own_stB {v u : Value} {w w' : World} {B C E T : Nat} {l m : List UInt8} (h : OB T B w v l) (hv : OB E C w' u m) (hC : w.heap.size ≤ C) :
    ∀ W, ExtQ (fun k => v.ownBlock = some k) w' W → RB W u m := fun W hW => by
  have h0 : OB E C W u m := ownsRow_extQ hv.own hW fun k hk q => by
    have h1 := (hv.own.lt k hk).1
    have := (h.own.lt k q).2; omega
  exact h0.rb
end Go.Ox
namespace Go.Proofs.YtpmpjjhchkoboaaGreatDoor
open Go.RowKit Go.Ox Go.Ox.Gr Go.Ox.Sc
theorem lit_stI {v : Value} {w : World} {B T : Nat} {l : List UInt8} {cs : Array Value} {ns : List Int} (h : OB T B w v l) (hcs : cs.toList = ns.flatMap fun (x : Int) => [Value.int .i64 x]) (hm : ns.length ≤ 1000) :
    ∀ W, ExtQ (fun k => v.ownBlock = some k) (w.alloc (.cells cs 3)) W → RE W (.slice (some ⟨w.heap.size, 0, none⟩) ns.length ns.length) ns := fun W hW => by
  have hs : cs.size = ns.length := by
    have := congrArg List.length hcs
    rw [Array.length_toList] at this
    rw [this]
    clear this hcs hm
    induction ns with
    | nil => rfl
    | cons x l ih => rw [List.flatMap_cons, List.length_append, ih, List.length_cons]; simp; omega
  have h0 : OE 3 w.heap.size (w.alloc (.cells cs 3)) (.slice (some ⟨w.heap.size, 0, none⟩) ns.length ns.length) ns := by
    have := World.ownsRow_lit (base := w.heap.size) (e := 3) (size := 1) w cs ns.length (Nat.le_refl _) (by unfold maxLen; omega) (by rw [hs]; omega)
    rw [hcs] at this
    exact OE.mk this
  exact own_stI h h0 (Nat.le_refl _) W hW
attribute [local irreducible] RE OE OB RB NodesR EpR InsR ActsR RP
set_option maxHeartbeats 4000000 in
theorem numbersX_any (B : Nat) (v u : Value) (acc : List UInt8) (l : List Int) (w : World) (hv : OB 5 B w v acc) (hB : B ≤ w.heap.size) (hst : ∀ W, ExtQ (fun k => v.ownBlock = some k) w W → RE W u l) (hl : l.length ≤ 1000) (hok : ∀ x ∈ l, okI x) (ha : acc.length ≤ 50000000) :
    Calls Tryz.prog 58 #[v, u] w fun e w' => ∃ v', e = .returned v' ∧ OB 5 B w' v' (acc ++ numsL l) ∧ OX v w v' w' := by
  obtain ⟨A, c, rfl⟩ := (hst w (ExtQ.refl _ _)).form
  have HV := Lib.hid hv
  have HST := Lib.hid hst
  have HB := Lib.hid hB
  have HL := Lib.hid hl
  have HA := Lib.hid ha
  have HOK := Lib.hid (fun (k : Nat) (h : k < l.length) => hok l[k] (List.getElem_mem h))
  have HNL := Lib.hid (show ∀ k, (numsL (l.take k)).length ≤ 9000 from fun k => by
    have h1 := numsL_len (l.take k) fun x hx => hok x (List.mem_of_mem_take hx)
    rw [List.length_take] at h1; omega)
  obtain ⟨A1, c1, hv1⟩ := hv.form
  have HV1 := Lib.hid hv1
  subst hv1
  clear hv hst hB hl ha hok
  go_enter Tryz.func58, Tryz.ntmps58
  go_wp2
  go_loopw [0, 5] (fun o iv wr => ∃ k : Nat, k ≤ l.length ∧ iv = .int .i64 (k : Int) ∧ OB 5 B wr o (acc ++ numsL (l.take k)) ∧ OX (.slice A1 acc.length c1) w o wr) (fun _ iv _ => l.length - (intOf iv).toNat)
  case atStart => exact ⟨0, Nat.zero_le _, rfl, by rw [show numsL (l.take 0) = [] from rfl, List.append_nil]; exact HV.out, OX.refl _ _⟩
  case round =>
    obtain ⟨k, hk, rfl, ho, hext⟩ := hrel
    have HE := Lib.hid hext
    have HO := Lib.hid ho
    obtain ⟨AO, cO, hvo⟩ := ho.form
    have hk100 : k ≤ 1000 := by have := HL.out; omega
    by_cases hlt : k < l.length
    · have q1 : (k : Int) < (l.length : Int) := by omega
      have q0 : 0 ≤ (k : Int) := by omega
      have q1n : k < l.length := hlt
      have HLT := Lib.hid hlt
      obtain ⟨bI, oI, rfl, z0⟩ := ri1 (HST.out _ hext.x) hlt
      have HS := Lib.hid (numsL_s l hlt)
      have HK := Lib.hid (HOK.out k hlt)
      have HLK := Lib.hid (HNL.out k)
      generalize l[k] = x at *
      have HPX := Lib.hid (fun w => putZ x HK.out w)
      have hp9 := putZ_len HK.out
      replace HLK := Lib.hid (show (acc ++ numsL (l.take k)).length + (Num.put x.toNat).length ≤ 51000000 by have h1 := HLK.out; have h2 := HA.out; rw [List.length_append]; omega)
      replace HS := Lib.hid (show acc ++ numsL (l.take (k + 1)) = (acc ++ numsL (l.take k)) ++ Num.put x.toNat by rw [HS.out]; simp only [List.append_assoc])
      generalize acc ++ numsL (l.take k) = lk at *
      generalize Num.put x.toNat = px at *
      subst hvo
      clear ho hext hlt hk hp9
      go_wp2_with fail
      refine (HPX.out _).mono ?_
      rintro e w5 ⟨v5, rfl, ho5, he5⟩
      obtain ⟨A5, k5, rfl⟩ := ho5.form
      have HO5 := Lib.hid ho5
      have HOL := Lib.hid (HO.out.ext he5)
      have HE5 := Lib.hid (HE.out.ext he5)
      clear ho5 he5 z0
      go_wp2_with (refine wpList_app rfl elemB _ _ _ rfl B _ lk.length (lk.map byteV) rfl HOL.out.own _ px.length (px.map byteV) rfl HO5.out.rb.rd (one_byteV _) (by have := HLK.out; omega) (by have := HLK.out; unfold maxLen; omega) (Nat.le_trans HB.out HE5.out.x.size) ?_; intro v9 w9 ha9; have HO9 := Lib.hid (OB.app ha9.own); have HE9 := Lib.hid (OX.app ha9); clear ha9)
      exact ⟨⟨k + 1, HLT.out, by go_num, by rw [HS.out]; exact HO9.out, HE5.out.trans HE9.out⟩, by have := HLT.out; simp [intOf]; omega⟩
    · obtain rfl : k = l.length := by omega
      have q1 : ¬ (l.length : Int) < (l.length : Int) := by omega
      rw [List.take_length] at HO ho
      clear hvo hk hlt
      go_wp2
      go_ret
      exact ⟨_, rfl, HO.out, HE.out⟩
set_option maxHeartbeats 4000000 in
theorem partX_any (B : Nat) (v u : Value) (acc b : List UInt8) (w : World) (hv : OB 5 B w v acc) (hB : B ≤ w.heap.size) (hst : ∀ W, ExtQ (fun k => v.ownBlock = some k) w W → RB W u b) (hl : b.length ≤ 1000000) (ha : acc.length ≤ 40000000) :
    Calls Tryz.prog 59 #[v, u] w fun e w' => ∃ v', e = .returned v' ∧ OB 5 B w' v' (acc ++ partL b) ∧ OX v w v' w' := by
  obtain ⟨A, c, rfl⟩ := (hst w (ExtQ.refl _ _)).form
  obtain ⟨A1, c1, rfl⟩ := hv.form
  have hal := (Ext.refl w).alloc (.cells #[.int .i64 (b.length : Int)] 3)
  have HST := Lib.hid hst
  have HX := Lib.hid (OX.of (v := .slice A1 acc.length c1) hal)
  have HB0 := Lib.hid hB
  have HC := Lib.hid (numbersX_any B (.slice A1 acc.length c1) (.slice (some ⟨w.heap.size, 0, none⟩) 1 1) acc [(b.length : Int)] _ (hv.ext hal) (Nat.le_trans hB hal.size) (lit_stI (cs := #[.int .i64 (b.length : Int)]) (ns := [(b.length : Int)]) hv rfl (by simp)) (by simp) (by intro x hx; simp at hx; subst hx; unfold okI; omega) (by omega))
  rw [show acc ++ numsL [(b.length : Int)] = acc ++ Num.put b.length by unfold numsL; simp] at HC
  have HLL := Lib.hid (show (acc ++ Num.put b.length).length ≤ 40000009 from by have := put_le9 (n := b.length) (by omega); rw [List.length_append]; omega)
  have HL := Lib.hid hl
  rw [show acc ++ partL b = (acc ++ Num.put b.length) ++ b by unfold partL; rw [List.append_assoc]]
  generalize acc ++ Num.put b.length = lk at *
  clear hv hB hst hl ha hal
  go_enter Tryz.func59, Tryz.ntmps59
  go_wp2_with fail
  refine HC.out.mono ?_
  rintro e w1 ⟨v1, rfl, ho1, hx1⟩
  have HO1 := Lib.hid ho1
  have HX1 := Lib.hid (HX.out.trans hx1)
  have HR1 := Lib.hid (HST.out w1 (HX.out.trans hx1).x)
  obtain ⟨A2, c2, rfl⟩ := ho1.form
  clear ho1 hx1
  go_wp2_with (refine wpList_app rfl elemB _ _ _ rfl B _ lk.length (lk.map byteV) rfl HO1.out.own _ b.length (b.map byteV) rfl HR1.out.rd (one_byteV _) (by have := HLL.out; have := HL.out; omega) (by have := HLL.out; have := HL.out; unfold maxLen; omega) (Nat.le_trans HB0.out HX1.out.x.size) ?_; intro v9 w9 ha9; have HO9 := Lib.hid (OB.app ha9.own); have HE9 := Lib.hid (OX.app ha9); clear ha9)
  go_ret
  exact ⟨_, rfl, HO9.out, HX1.out.trans HE9.out⟩
set_option maxHeartbeats 16000000 in
theorem rEncode26_any (d : Nat) (s : Sc) (nv iv av : Value) (w : World) (h : ScR d w nv iv av s) (hok : scOk s = true) :
    Calls Tryz.prog 14 #[scAg s nv iv av] w fun e w' => ∃ u, e = .returned u ∧ RB w' u (scL s) ∧ Ext w w' := by
  have HX := Lib.hid ((Ext.refl w).alloc (scCs (.int .i64 s.cfg.1) (.int .i64 s.cfg.2.1) (.int .i64 s.cfg.2.2.1) (.int .i64 s.cfg.2.2.2) nv s.g.2 iv av))
  have HB := Lib.hid (Bx8.new w 30 (.int .i64 s.cfg.1) (.int .i64 s.cfg.2.1) (.int .i64 s.cfg.2.2.1) (.int .i64 s.cfg.2.2.2) nv (.int .i64 s.g.2) iv av)
  have HH := Lib.hid (h.ext HX.out)
  obtain ⟨⟨AN, cN, rfl⟩, ⟨AI, cI, rfl⟩, ⟨AA, cA, rfl⟩⟩ := h.form
  obtain ⟨p1, p2, p3, p4, p5, p6⟩ := scOk_parts hok
  have HSC := Lib.hid (show scL s = ((numsL (cfgN s.cfg) ++ partL (Gr.grL s.g)) ++ Num.put s.ins.length) ++ s.ins.flatMap epL ++ Num.put s.acts.length ++ s.acts.flatMap actL from by unfold scL; simp only [List.append_assoc])
  obtain ⟨⟨k0, k1, k2, k3⟩, ⟨ns, out⟩, ins, acts⟩ := s
  dsimp only at *
  rw [show cfgN (k0, k1, k2, k3) = [k0, k1, k2, k3] from rfl] at HSC p1
  have HCF := Lib.hid (show ∀ x ∈ [k0, k1, k2, k3], okI x from fun x hx => inR_ok (p1 x hx) (by omega))
  have HGO := Lib.hid (show gOk (ns, out) = true ∧ PutN 2 ns ∧ okI out from ⟨p2, (Gr.gOk_fit p2).1.put, (Gr.gOk_fit p2).2⟩)
  have HGL := Lib.hid (gr_len p2)
  have HI16 := Lib.hid p3
  have HIO := Lib.hid p4
  have HA256 := Lib.hid p5
  have HAO := Lib.hid p6
  have HPL := Lib.hid (show (((numsL [k0, k1, k2, k3] ++ partL (Gr.grL (ns, out))) ++ Num.put ins.length)).length ≤ 90000 from by
    have a1 := numsL_len [k0, k1, k2, k3] HCF.out
    have a2 := partL_len (b := Gr.grL (ns, out)) (by have := HGL.out; omega)
    have a3 := put_le9 (n := ins.length) (by omega)
    have a4 := HGL.out
    simp only [List.length_append, List.length_cons, List.length_nil] at *
    omega)
  have HFL := Lib.hid (take_flat epL 140000 16 ins p3 fun l hl => by have := epL_len (c := 4096) (p4 l hl) (ep_le (p4 l hl)); omega)
  have HFA := Lib.hid (take_flat actL 400 256 acts p5 fun a ha => actL_len (p6 a ha))
  clear h hok p1 p2 p3 p4 p5 p6
  go_enter Tryz.func14, Tryz.ntmps14
  go_upto_region 1 with fail
  generalize w.heap.size = p at *
  generalize w.alloc (scCs (.int .i64 k0) (.int .i64 k1) (.int .i64 k2) (.int .i64 k3) (.slice AN ns.length cN) out (.slice AI ins.length cI) (.slice AA acts.length cA)) = w0 at *
  obtain ⟨c0, c1, c2, c3, c4, c5, c6, c7⟩ := HB.out.at_
  have hxc := (Ext.refl w0).alloc (.cells #[.int .i64 k0, .int .i64 k1, .int .i64 k2, .int .i64 k3] 23)
  have HBC := Lib.hid (Bx4.new w0 23 (.int .i64 k0) (.int .i64 k1) (.int .i64 k2) (.int .i64 k3))
  have HB1 := Lib.hid (HB.out.ext hxc)
  have HH1 := Lib.hid (HH.out.ext hxc)
  have HX1 := Lib.hid (HX.out.trans hxc)
  clear hxc
  go_upto_region 2 with fail
  clear c0 c1 c2 c3 c4 c5 c6 c7
  generalize w0.heap.size = q at *
  generalize w0.alloc (.cells #[.int .i64 k0, .int .i64 k1, .int .i64 k2, .int .i64 k3] 23) = w1 at *
  obtain ⟨c0, c1, c2, c3, c4, c5, c6, c7⟩ := HB1.out.at_
  obtain ⟨d0, d1, d2, d3⟩ := HBC.out.at_
  have H0 := Lib.hid (show (numsL [k0, k1, k2, k3]).length ≤ 36 from numsL_len _ HCF.out)
  have HO1 := Lib.hid (OB.nilO w1 5 w1.heap.size)
  have hal := (Ext.refl w1).alloc (.cells #[.int .i64 k0, .int .i64 k1, .int .i64 k2, .int .i64 k3] 3)
  have HC4 := Lib.hid (numbersX_any w1.heap.size (.slice none 0 0) (.slice (some ⟨w1.heap.size, 0, none⟩) 4 4) [] [k0, k1, k2, k3] _ (HO1.out.ext hal) hal.size (lit_stI (cs := #[.int .i64 k0, .int .i64 k1, .int .i64 k2, .int .i64 k3]) (ns := [k0, k1, k2, k3]) HO1.out rfl (by simp)) (by simp) HCF.out (by simp))
  rw [List.nil_append] at HC4
  have HX3 := Lib.hid (OX.of (v := .slice none 0 0) hal)
  clear hal
  generalize hl0 : numsL [k0, k1, k2, k3] = l0 at *
  have HL0 := Lib.hid hl0
  clear hl0
  go_wp2_with fail
  refine HC4.out.mono ?_
  rintro e w4 ⟨v4, rfl, hw4, hx4⟩
  have HW4 := Lib.hid hw4
  have HX4 := Lib.hid (HX3.out.trans hx4)
  have hold := (HX3.out.trans hx4).old (Ext.refl _) HO1.out
  have HB4 := Lib.hid (HB1.out.ext hold)
  have HCG := Lib.hid (rPutO_any d (.slice AN ns.length cN) ns out w4 (HH1.out.n.ext hold) HGO.out.2.1 HGO.out.2.2)
  obtain ⟨A4, m4, rfl⟩ := hw4.form
  clear hw4 hx4 hold
  generalize hgl : grL (ns, out) = gl at *
  have HGG := Lib.hid hgl
  clear hgl
  clear c0 c1 c2 c3 c4 c5 c6 c7 d0 d1 d2 d3
  obtain ⟨c0, c1, c2, c3, c4, c5, c6, c7⟩ := HB4.out.at_
  go_wp2_with fail
  refine HCG.out.mono ?_
  rintro e w5 ⟨u5, rfl, ho5, he5⟩
  have HC6 := Lib.hid (partX_any w1.heap.size (.slice A4 l0.length m4) u5 l0 gl w5 (HW4.out.ext he5) (Nat.le_trans HX4.out.x.size he5.size) (own_stB HW4.out ho5 (Nat.le_refl _)) (by have := HGL.out; omega) (by have := H0.out; omega))
  have HX5 := Lib.hid (HX4.out.ext he5)
  obtain ⟨A5, m5, rfl⟩ := ho5.form
  clear ho5 he5 c0 c1 c2 c3 c4 c5 c6 c7
  go_wp2_with fail
  refine HC6.out.mono ?_
  rintro e w6 ⟨v6, rfl, hw6, hx6⟩
  have HX6 := Lib.hid (HX5.out.trans hx6)
  have hold := (HX5.out.trans hx6).old (Ext.refl _) HO1.out
  have HB6 := Lib.hid (HB1.out.ext hold)
  have hal := (Ext.refl w6).alloc (.cells #[.int .i64 (ins.length : Int)] 3)
  have HC7 := Lib.hid (numbersX_any w1.heap.size v6 (.slice (some ⟨w6.heap.size, 0, none⟩) 1 1) (l0 ++ partL gl) [(ins.length : Int)] _ (hw6.ext hal) (Nat.le_trans hold.size hal.size) (lit_stI (cs := #[.int .i64 (ins.length : Int)]) (ns := [(ins.length : Int)]) hw6 rfl (by simp)) (by simp) (by intro z hz; simp at hz; subst hz; have := HI16.out; unfold okI; omega) (by have := HPL.out; rw [List.length_append] at this; omega))
  rw [show (l0 ++ partL gl) ++ numsL [(ins.length : Int)] = (l0 ++ partL gl) ++ Num.put ins.length by unfold numsL; simp] at HC7
  have HX6a := Lib.hid (HX6.out.ext hal)
  generalize (l0 ++ partL gl) ++ Num.put ins.length = l7 at *
  obtain ⟨A6, n6, m6, hv6⟩ : ∃ A n c, v6 = .slice A n c := by obtain ⟨A, c, h⟩ := hw6.form; exact ⟨A, _, c, h⟩
  subst hv6
  clear hw6 hx6 hold hal
  obtain ⟨c0, c1, c2, c3, c4, c5, c6, c7⟩ := HB6.out.at_
  go_wp2_with fail
  refine HC7.out.mono ?_
  rintro e w7 ⟨v7, rfl, hw7, hx7⟩
  have HW7 := Lib.hid hw7
  have HX7 := Lib.hid (HX6a.out.trans hx7)
  clear hw7 hx7 c0 c1 c2 c3 c4 c5 c6 c7
  go_wp2
  go_loopw [4, 5] (fun o iv wr => ∃ i : Nat, i ≤ ins.length ∧ iv = .int .i64 (i : Int) ∧ OB 5 w1.heap.size wr o (l7 ++ (ins.take i).flatMap epL) ∧ OX (.slice none 0 0) w1 o wr) (fun _ iv _ => ins.length - (intOf iv).toNat)
  case atStart => exact ⟨0, Nat.zero_le _, rfl, by rw [show (ins.take 0).flatMap epL = [] from rfl, List.append_nil]; exact HW7.out, HX7.out⟩
  case round =>
    obtain ⟨i, hi, rfl, hws, hwx⟩ := hrel
    have hi16 : i ≤ 16 := by have := HI16.out; omega
    have hold := hwx.old (Ext.refl _) HO1.out
    obtain ⟨c0, c1, c2, c3, c4, c5, c6, c7⟩ := (HB1.out.ext hold).at_
    obtain ⟨AO, cO, hvo⟩ := hws.form
    by_cases hlt : i < ins.length
    · have q1 : (i : Int) < (ins.length : Int) := by omega
      have q0 : 0 ≤ (i : Int) := by omega
      have q1n : i < ins.length := hlt
      have HLT := Lib.hid hlt
      obtain ⟨bI, oI, u0, rfl, z0, hu0⟩ := HH1.out.i.at_ hlt
      have HZ0 := Lib.hid z0
      have z0 := hold.cell z0
      have HS := Lib.hid (epL_s ins hlt)
      have HLK := Lib.hid (show (l7 ++ (ins.take i).flatMap epL).length ≤ 2400000 from by have a := HPL.out; have b := HFL.out i; rw [List.length_append]; omega)
      have HEO := Lib.hid (HIO.out _ (List.getElem_mem hlt))
      generalize ins[i] = L at *
      replace HS := Lib.hid (show l7 ++ (ins.take (i + 1)).flatMap epL = ((l7 ++ (ins.take i).flatMap epL) ++ Num.put L.length) ++ L.flatMap bagL from by rw [HS.out]; unfold epL; simp only [List.append_assoc])
      have HL4 := Lib.hid (show L.length ≤ 4 ∧ (∀ b ∈ L, Rec.may b = 0 ∧ b.length ≤ 4096) from by
        have h := HEO.out
        have h2 := ep_le h
        unfold epOk at h
        simp only [Bool.and_eq_true, decide_eq_true_eq, List.all_eq_true] at h
        exact ⟨h.1, fun b hb => ⟨h.2 b hb, h2 b hb⟩⟩)
      generalize l7 ++ (ins.take i).flatMap epL = lk at *
      have HU0 := Lib.hid hu0
      obtain ⟨AL, cL, rfl⟩ := hu0.form
      subst hvo
      have hal := (Ext.refl wr).alloc (.cells #[.int .i64 (L.length : Int)] 3)
      have HC9 := Lib.hid (numbersX_any w1.heap.size (.slice AO lk.length cO) (.slice (some ⟨wr.heap.size, 0, none⟩) 1 1) lk [(L.length : Int)] _ (hws.ext hal) (Nat.le_trans hold.size hal.size) (lit_stI (cs := #[.int .i64 (L.length : Int)]) (ns := [(L.length : Int)]) hws rfl (by simp)) (by simp) (by intro z hz; simp at hz; subst hz; have := HL4.out.1; unfold okI; omega) (by have := HLK.out; omega))
      rw [show lk ++ numsL [(L.length : Int)] = lk ++ Num.put L.length by unfold numsL; simp] at HC9
      have HLM := Lib.hid (show (lk ++ Num.put L.length).length ≤ 2400009 from by have a := HLK.out; have b := put_le9 (n := L.length) (by have := HL4.out.1; omega); rw [List.length_append]; omega)
      have HFB := Lib.hid (take_flat bagL 33000 4 L HL4.out.1 fun b hb => by have := bagL_len (HL4.out.2 b hb).1; omega)
      generalize lk ++ Num.put L.length = lm at *
      have HX8 := Lib.hid (hwx.ext hal)
      clear hws hwx hal hold hlt hi hu0
      go_wp2_with fail
      refine HC9.out.mono ?_
      rintro e w9 ⟨v9, rfl, hw9, hx9⟩
      have HW9 := Lib.hid hw9
      have HX9 := Lib.hid (HX8.out.trans hx9)
      clear hw9 hx9 z0 q1 q0 q1n hi16 c0 c1 c2 c3 c4 c5 c6 c7
      go_wp2
      go_loopw [4, 6] (fun o jv wq => ∃ k : Nat, k ≤ L.length ∧ jv = .int .i64 (k : Int) ∧ OB 5 w1.heap.size wq o (lm ++ (L.take k).flatMap bagL) ∧ OX (.slice none 0 0) w1 o wq) (fun _ jv _ => L.length - (intOf jv).toNat)
      case atStart => exact ⟨0, Nat.zero_le _, rfl, by rw [show (L.take 0).flatMap bagL = [] from rfl, List.append_nil]; exact HW9.out, HX9.out⟩
      case round =>
        obtain ⟨k, hk, rfl, hws, hwx⟩ := hrel
        have hk4 : k ≤ 4 := by have := HL4.out.1; omega
        have hi16 : i ≤ 16 := by have := HI16.out; have := HLT.out; omega
        have q1 : (i : Int) < (ins.length : Int) := by have := HLT.out; omega
        have q0 : 0 ≤ (i : Int) := by omega
        have q1n : i < ins.length := HLT.out
        have hold := hwx.old (Ext.refl _) HO1.out
        obtain ⟨c0, c1, c2, c3, c4, c5, c6, c7⟩ := (HB1.out.ext hold).at_
        have z0 := hold.cell HZ0.out
        obtain ⟨AO, cO, hvo⟩ := hws.form
        by_cases hkl : k < L.length
        · have r1 : (k : Int) < (L.length : Int) := by omega
          have r0 : 0 ≤ (k : Int) := by omega
          have r1n : k < L.length := hkl
          have HKL := Lib.hid hkl
          obtain ⟨bE, oE, u3, rfl, y0, hu3⟩ := HU0.out.at_ hkl
          have y0 := hold.cell y0
          have HSB := Lib.hid (bagL_s L hkl)
          have HLN := Lib.hid (show (lm ++ (L.take k).flatMap bagL).length ≤ 2600000 from by have a := HLM.out; have b := HFB.out k; rw [List.length_append]; omega)
          have HBO := Lib.hid (HL4.out.2 _ (List.getElem_mem hkl))
          generalize L[k] = B at *
          replace HSB := Lib.hid (show lm ++ (L.take (k + 1)).flatMap bagL = (lm ++ (L.take k).flatMap bagL) ++ partL (Rec.encL B) from by rw [HSB.out, List.append_assoc]; rfl)
          have HEL := Lib.hid (show (Rec.encL B).length ≤ 40000 from by have a := Rec.enc_len HBO.out.1; have := HBO.out.2; omega)
          generalize lm ++ (L.take k).flatMap bagL = ln at *
          have HMY := Lib.hid (renc_any u3 B wr (RP.ext hu3 hold) HBO.out.1)
          generalize Rec.encL B = eb at *
          subst hvo
          have HWS := Lib.hid hws
          have HWX := Lib.hid hwx
          have HSZ := Lib.hid hold.size
          obtain ⟨AB, cB, rfl⟩ := hu3.form
          clear hu3 hkl hk hws hwx hold
          go_wp2_with fail
          refine HMY.out.mono ?_
          rintro e w5 ⟨u5, rfl, ho5, he5⟩
          have HCP := Lib.hid (partX_any w1.heap.size (.slice AO ln.length cO) u5 ln eb w5 (HWS.out.ext he5) (Nat.le_trans HSZ.out he5.size) (own_stB HWS.out ho5 (Nat.le_refl _)) (by have := HEL.out; omega) (by have := HLN.out; omega))
          have HXP := Lib.hid (HWX.out.ext he5)
          obtain ⟨A5, m5, rfl⟩ := ho5.form
          clear ho5 he5 y0
          go_wp2_with fail
          refine HCP.out.mono ?_
          rintro e w6 ⟨v6, rfl, hw6, hx6⟩
          have HW6 := Lib.hid hw6
          have HX6 := Lib.hid (HXP.out.trans hx6)
          clear hw6 hx6
          go_wp2
          exact ⟨⟨k + 1, HKL.out, by go_num, by rw [HSB.out]; exact HW6.out, HX6.out⟩, by have := HKL.out; simp [intOf]; omega⟩
        · obtain rfl : k = L.length := by omega
          have r1 : ¬ (L.length : Int) < (L.length : Int) := by omega
          rw [List.take_length] at hws
          have HWS := Lib.hid hws
          have HWX := Lib.hid hwx
          clear hk hkl hws hwx hold hvo
          go_wp2
          exact ⟨⟨i + 1, HLT.out, by go_num, by rw [HS.out]; exact HWS.out, HWX.out⟩, by have := HLT.out; simp [intOf]; omega⟩
    · obtain rfl : i = ins.length := by omega
      have q1 : ¬ (ins.length : Int) < (ins.length : Int) := by omega
      rw [List.take_length] at hws hvo
      have HL8 := Lib.hid (show (l7 ++ ins.flatMap epL).length ≤ 2400000 from by have a := HPL.out; have b := HFL.out ins.length; rw [List.take_length] at b; rw [List.length_append]; omega)
      generalize l7 ++ ins.flatMap epL = l8 at *
      subst hvo
      have hal := (Ext.refl wr).alloc (.cells #[.int .i64 (acts.length : Int)] 3)
      have HC9 := Lib.hid (numbersX_any w1.heap.size (.slice AO l8.length cO) (.slice (some ⟨wr.heap.size, 0, none⟩) 1 1) l8 [(acts.length : Int)] _ (hws.ext hal) (Nat.le_trans hold.size hal.size) (lit_stI (cs := #[.int .i64 (acts.length : Int)]) (ns := [(acts.length : Int)]) hws rfl (by simp)) (by simp) (by intro z hz; simp at hz; subst hz; have := HA256.out; unfold okI; omega) (by have := HL8.out; omega))
      rw [show l8 ++ numsL [(acts.length : Int)] = l8 ++ Num.put acts.length by unfold numsL; simp] at HC9
      have HL9 := Lib.hid (show (l8 ++ Num.put acts.length).length ≤ 2400009 from by have a := HL8.out; have b := put_le9 (n := acts.length) (by have := HA256.out; omega); rw [List.length_append]; omega)
      generalize l8 ++ Num.put acts.length = l9 at *
      have HX8 := Lib.hid (hwx.ext hal)
      clear hws hwx hal hold hlt hi hi16
      go_wp2_with fail
      refine HC9.out.mono ?_
      rintro e w9 ⟨v9, rfl, hw9, hx9⟩
      have HW9 := Lib.hid hw9
      have HX9 := Lib.hid (HX8.out.trans hx9)
      clear hw9 hx9 q1 c0 c1 c2 c3 c4 c5 c6 c7
      go_wp2
      go_loopw [4, 7] (fun o jv wq => ∃ k : Nat, k ≤ acts.length ∧ jv = .int .i64 (k : Int) ∧ OB 5 w1.heap.size wq o (l9 ++ (acts.take k).flatMap actL) ∧ OX (.slice none 0 0) w1 o wq) (fun _ jv _ => acts.length - (intOf jv).toNat)
      case atStart => exact ⟨0, Nat.zero_le _, rfl, by rw [show (acts.take 0).flatMap actL = [] from rfl, List.append_nil]; exact HW9.out, HX9.out⟩
      case round =>
        obtain ⟨k, hk, rfl, hws, hwx⟩ := hrel
        have hk256 : k ≤ 256 := by have := HA256.out; omega
        have hold := hwx.old (Ext.refl _) HO1.out
        obtain ⟨c0, c1, c2, c3, c4, c5, c6, c7⟩ := (HB1.out.ext hold).at_
        obtain ⟨AO, cO, hvo⟩ := hws.form
        by_cases hkl : k < acts.length
        · have r1 : (k : Int) < (acts.length : Int) := by omega
          have r0 : 0 ≤ (k : Int) := by omega
          have r1n : k < acts.length := hkl
          have HKL := Lib.hid hkl
          obtain ⟨bE, oE, u3, rfl, z0, z1, z2, z3, z4, z5, hu3⟩ := HH1.out.a.at_ hkl
          have z0 := hold.cell z0
          have z1 := hold.cell z1
          have z2 := hold.cell z2
          have z3 := hold.cell z3
          have z4 := hold.cell z4
          have z5 := hold.cell z5
          have HSB := Lib.hid (actL_s acts hkl)
          have HLN := Lib.hid (show (l9 ++ (acts.take k).flatMap actL).length ≤ 2600000 from by have a := HL9.out; have b := HFA.out k; rw [List.length_append]; omega)
          have HAK := Lib.hid (actOk_parts (HAO.out _ (List.getElem_mem hkl)))
          generalize acts[k] = a at *
          obtain ⟨⟨ak, an, aa, ab, at_⟩, ks⟩ := a
          dsimp only at z0 z1 z2 z3 z4 z5 hu3
          replace HSB := Lib.hid (show l9 ++ (acts.take (k + 1)).flatMap actL = ((l9 ++ (acts.take k).flatMap actL) ++ numsL [ak, an, aa, ab, at_, (ks.length : Int)]) ++ numsL ks from by rw [HSB.out, actL_is]; simp only [List.append_assoc])
          have HK6 := Lib.hid (show (∀ x ∈ [ak, an, aa, ab, at_, (ks.length : Int)], okI x) ∧ ks.length ≤ 256 ∧ ∀ x ∈ ks, okI x from by
            obtain ⟨h1, h2, h3⟩ := HAK.out
            refine ⟨fun x hx => ?_, h2, fun x hx => by have := h3 x hx; unfold okI; omega⟩
            simp at hx
            rcases hx with rfl | rfl | rfl | rfl | rfl | rfl
            · exact h1 _ (by simp [actN])
            · exact h1 _ (by simp [actN])
            · exact h1 _ (by simp [actN])
            · exact h1 _ (by simp [actN])
            · exact h1 _ (by simp [actN])
            · dsimp only at h2; unfold okI; omega)
          generalize l9 ++ (acts.take k).flatMap actL = ln at *
          subst hvo
          have HU3 := Lib.hid hu3
          obtain ⟨AB, cB, rfl⟩ := hu3.form
          have hxn := (Ext.refl wr).alloc (actCs ak an aa ab at_ (.slice AB ks.length cB))
          have HWSN := Lib.hid (hws.ext hxn)
          have HWXN := Lib.hid (hwx.ext hxn)
          have HSZ := Lib.hid (Nat.le_trans hold.size hxn.size)
          have HNB0 := Lib.hid (Bx6.new wr 47 (.int .i64 ak) (.int .i64 an) (.int .i64 aa) (.int .i64 ab) (.int .i64 at_) (.slice AB ks.length cB))
          have HNE := Lib.hid (show (Value.slice AO ln.length cO).ownBlock ≠ some wr.heap.size from fun e => by have := (hws.own.lt _ e).2; omega)
          clear hws hwx hu3 hxn hkl hk hold
          go_upto_region 18 with fail
          clear z0 z1 z2 z3 z4 z5 c0 c1 c2 c3 c4 c5 c6 c7
          generalize wr.heap.size = qa at *
          generalize wr.alloc (actCs ak an aa ab at_ (.slice AB ks.length cB)) = wn at *
          obtain ⟨y0, y1, y2, y3, y4, y5⟩ := HNB0.out.at_
          have hal := (Ext.refl wn).alloc (.cells #[.int .i64 ak, .int .i64 an, .int .i64 aa, .int .i64 ab, .int .i64 at_, .int .i64 (ks.length : Int)] 3)
          have HC4 := Lib.hid (numbersX_any w1.heap.size (.slice AO ln.length cO) (.slice (some ⟨wn.heap.size, 0, none⟩) 6 6) ln [ak, an, aa, ab, at_, (ks.length : Int)] _ (HWSN.out.ext hal) (Nat.le_trans HSZ.out hal.size) (lit_stI (cs := #[.int .i64 ak, .int .i64 an, .int .i64 aa, .int .i64 ab, .int .i64 at_, .int .i64 (ks.length : Int)]) (ns := [ak, an, aa, ab, at_, (ks.length : Int)]) HWSN.out rfl (by simp)) (by simp) HK6.out.1 (by have h1 := HLN.out; omega))
          have HXA4 := Lib.hid (HWXN.out.ext hal)
          have HBA4 := Lib.hid (HNB0.out.ext hal)
          clear hal
          go_wp2_with fail
          refine HC4.out.mono ?_
          rintro e w4 ⟨v4, rfl, hw4, hx4⟩
          have HB4 := Lib.hid (HBA4.out.extQ hx4.x HNE.out)
          have HX4 := Lib.hid (HXA4.out.trans hx4)
          clear y0 y1 y2 y3 y4 y5
          obtain ⟨y0, y1, y2, y3, y4, y5⟩ := HB4.out.at_
          have HC5 := Lib.hid (numbersX_any w1.heap.size v4 (.slice AB ks.length cB) _ ks w4 hw4 HX4.out.x.size (fun W hW => RE.ext HU3.out ((HX4.out.more hW).old (Ext.refl _) HO1.out)) (by have := HK6.out.2.1; omega) HK6.out.2.2 (by have h1 := HLN.out; have h2 := numsL_len _ HK6.out.1; rw [List.length_append]; simp only [List.length_cons, List.length_nil] at h2; omega))
          obtain ⟨A6, n6, m6, hv6⟩ : ∃ A n c, v4 = .slice A n c := by obtain ⟨A, c, h⟩ := hw4.form; exact ⟨A, _, c, h⟩
          subst hv6
          clear hw4 hx4
          go_wp2_with fail
          refine HC5.out.mono ?_
          rintro e w5 ⟨v5, rfl, hw5, hx5⟩
          have HW5 := Lib.hid hw5
          have HX5 := Lib.hid (HX4.out.trans hx5)
          clear hw5 hx5 y0 y1 y2 y3 y4 y5
          go_wp2
          exact ⟨⟨k + 1, HKL.out, by go_num, by rw [HSB.out]; exact HW5.out, HX5.out⟩, by have := HKL.out; simp [intOf]; omega⟩
        · obtain rfl : k = acts.length := by omega
          have r1 : ¬ (acts.length : Int) < (acts.length : Int) := by omega
          rw [List.take_length] at hws
          have HWS := Lib.hid hws
          have HE4 := Lib.hid hold
          clear hk hkl hws hwx hvo hold
          go_wp2
          go_ret
          rw [HSC.out]
          exact ⟨_, rfl, HWS.out.rb, HX1.out.trans HE4.out⟩
end Go.Proofs.YtpmpjjhchkoboaaGreatDoor
