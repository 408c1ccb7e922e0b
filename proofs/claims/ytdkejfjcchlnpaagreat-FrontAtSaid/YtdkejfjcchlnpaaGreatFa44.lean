/-
  MomFR2, packed: what the claim needs of them.
-/
import Derived.Test.YtdkejfjcchlnpaaGreatFa38
set_option maxHeartbeats 40000000
open Go.Lib (hid)
set_option linter.unusedVariables false
set_option maxRecDepth 100000
namespace Go.Proofs.YtdkejfjcchlnpaaGreat.Mo
open Go.RowKit Go.Ox
attribute [local irreducible] OP RP
def a2p (l : List Mom.M) (m : Mom.M) : Bool := l.all fun k => decide (k = m) || !Mom.ahead k m
theorem b5p (l : List Mom.M) (m : Mom.M) (k : Nat) (h : k < l.length) : a2p (l.take (k + 1)) m = (a2p (l.take k) m && (decide (l[k] = m) || !Mom.ahead l[k] m)) := by
 unfold a2p;rw [List.take_succ_eq_append_getElem h, List.all_append]; simp
theorem b5q (l : List Mom.M) (k : Nat) (h : k < l.length) : (l.take (k + 1)).foldl (Mom.a0p l) [] = Mom.a0p l ((l.take k).foldl (Mom.a0p l) []) l[k] := by
 rw [List.take_succ_eq_append_getElem h, List.foldl_append]; rfl
theorem b7B (out : List Mom.M) (m : Mom.M) : (Mom.ins out m).length ≤ out.length + 1 := by
 unfold Mom.ins
 split
 · omega
 rw [List.length_append, List.length_cons, List.length_take, List.length_drop]; omega
theorem a8v (l : List Mom.M) : ∀ (s out : List Mom.M), (s.foldl (Mom.a0p l) out).length ≤ out.length + s.length
 | [], out => by simp
 | m :: s, out => by
  have := a8v l s (Mom.a0p l out m)
  have h2 : (Mom.a0p l out m).length ≤ out.length + 1 := by
   unfold Mom.a0p
   split
   · exact b7B out m
   · omega
  rw [List.foldl_cons, List.length_cons]; omega
theorem b0n (out : List Mom.M) (m : Mom.M) (j : Nat) (hj : j ≤ out.length) (h1 : ∀ x ∈ out.take j, Mom.cmp x m < 0) (h2 : ∀ h : j < out.length, ¬ Mom.cmp out[j] m < 0) : Mom.place out m = j := by
 unfold Mom.place
 induction out generalizing j with
 | nil => simp at hj; subst hj; rfl
 | cons a out ih =>
 cases j with
 | zero =>
  have := h2 (by simp)
  rw [List.takeWhile_cons, if_neg (by simpa using this)]; rfl
 | succ j =>
 have := h1 a (by simp)
 rw [List.takeWhile_cons, if_pos (by simpa using this), List.length_cons, ih j (by simpa using hj) (fun x hx => h1 x (by simp [hx])) (fun h => by have := h2 (by simp; omega); rwa [List.getElem_cons_succ] at this)]
theorem b3R {out : List Mom.M} {m : Mom.M} {j : Nat} (hj : j < out.length) (h1 : ∀ x ∈ out.take j, Mom.cmp x m < 0) (h2 : Mom.cmp out[j] m < 0) : ∀ x ∈ out.take (j + 1), Mom.cmp x m < 0 := by
 intro x hx;rw [List.take_succ_eq_append_getElem hj] at hx
 rcases List.mem_append.1 hx with h | h
 · exact h1 x h
 rw [List.mem_singleton.1 h]; exact h2
theorem a6D (l out : List Mom.M) (m : Mom.M) (h : Mom.least l m = false) : Mom.a0p l out m = out := by
 unfold Mom.a0p; rw [if_neg (by simp [h])]
theorem a9p (l out : List Mom.M) (m : Mom.M) (j : Nat) (hp : Mom.place out m = j) (hj : j < out.length) (he : out[j] = m) : Mom.a0p l out m = out := by
 unfold Mom.a0p Mom.ins;subst hp;rw [List.getElem?_eq_getElem hj, he]; simp
theorem a8w (l out : List Mom.M) (m : Mom.M) (j : Nat) (h : Mom.least l m = true) (hp : Mom.place out m = j) (hn : ∀ hj : j < out.length, out[j] ≠ m) : Mom.a0p l out m = out.take j ++ [m] ++ out.drop j := by
 unfold Mom.a0p Mom.ins;subst hp;rw [if_pos h, if_neg]
 · simp
 intro he;obtain ⟨hj, he⟩ := List.getElem?_eq_some_iff.1 he;exact hn hj he
unseal RP in
theorem RP.lo {t e : TypeId} {z : Value} {bytes c : Nat} {P : Program} {A : Option Addr} {l : List (Int × Int)} (el : Elem P t e z 2 bytes) {w : World} (h : RP w (.slice A l.length c) l) {k : Nat} (hk : k ≤ l.length) :
 ∃ A', (∀ w', (Instr.slice t (.slice A l.length c) (some (.int .i64 (k : Int))) none none).run P w' = .ok (.slice A' (l.length - k) (c - k)) w') ∧ RP w (.slice A' (l.length - k) (c - k)) (l.drop k) := by
 obtain ⟨A', h1, h2⟩ := Rd.lo el h hk (k : Int) rfl;rw [b61] at h2;refine ⟨A', h1, ?_⟩;unfold RP;rw [List.length_drop];exact h2
unseal RP in
theorem RP.hi {t e : TypeId} {z : Value} {bytes c : Nat} {P : Program} {A : Option Addr} {l : List (Int × Int)} (el : Elem P t e z 2 bytes) {w : World} (h : RP w (.slice A l.length c) l) {k : Nat} (hk : k ≤ l.length) :
 (∀ w', (Instr.slice t (.slice A l.length c) none (some (.int .i64 (k : Int))) none).run P w' = .ok (.slice A k c) w') ∧ RP w (.slice A k c) (l.take k) := by
 obtain ⟨A0, c0, he, h⟩ := h;injection he with h1 h2 h3
 subst h1; subst h3;obtain ⟨i, hi, hz, hs, hb⟩ := el.info;have hnc := h.nc;refine ⟨fun w' => ?_, ?_⟩
 · have : ((k : Int) ≤ (c : Int)) := by omega
   simp [Instr.slice, run_underlying el.under, Instr.sliceBounds, run_sliceBound w' .i64 (k : Int) c .sliceAcap (by omega) this, sizeOf, typeInfo, hi]
   cases A <;> simp [Addr.add]
 refine ⟨A, c, ?_, ?_⟩
 · rw [List.length_take, Nat.min_eq_left hk]
 rw [List.length_take, Nat.min_eq_left hk, ← b62];exact h.take hk
unseal OP in
theorem O0.op {base e : Nat} {l : List (Int × Int)} {v : Value} {w : World} (h : O0 base e 2 l.length (pV l) v w) : OP e base w v l := h
theorem b1t (v : Value) (l : List Mom.M) (w : World) (hv : RP w v l) (hl : l.length ≤ 1000000) :
 Calls Tryz.prog 23 #[v] w fun e w' => ∃ v', e = .returned v' ∧ OP 29 w.heap.size w' v' (Mom.a1v l) ∧ Ext w w' := by
 obtain ⟨A, c, rfl⟩ := hv.form;have HV := hid hv;have hE := neM;have hE2 := eqM;have hG := a8k;clear hv
 go_enter Tryz.func23, Tryz.ntmps23
 go_wp2
 go_loopw [3, 4] (fun o i wr => ∃ k : Nat, k ≤ l.length ∧ i = .int .i64 k ∧ OP 29 w.heap.size wr o ((l.take k).foldl (Mom.a0p l) []) ∧ Ext w wr) (fun _ i _ => l.length - (intOf i).toNat)
 case atStart => exact ⟨0, Nat.zero_le _, rfl, OP.a2q _ _ _, Ext.refl _⟩
 case round =>
 obtain ⟨i, hi, rfl, ho, hext⟩ := hrel;rename World => wA
 have HO := hid ho;have HX := hid hext;clear ho hext
 by_cases hlt : i < l.length
 · have g1 : (i : Int) < (l.length : Int) := by omega
   have g0 : 0 ≤ (i : Int) := by omega
   obtain ⟨b, o, rfl, c0, c1⟩ := HV.o.at_ hlt;have c0 := HX.o.cell c0;have c1 := HX.o.cell c1;have HS := hid (b5q l i hlt);have hFl := a8v l (l.take i) [];rw [List.length_nil, Nat.zero_add, List.length_take, Nat.min_eq_left hi] at hFl;generalize (l.take i).foldl (Mom.a0p l) [] = F at *;obtain ⟨AF, cF, rfl⟩ := HO.o.rp.form;generalize l[i] = m at *;obtain ⟨m1, m2⟩ := m;dsimp only at *
   go_wp2
   go_loopw [5, 6] (fun lv kv wr2 => ∃ j : Nat, j ≤ l.length ∧ kv = .int .i64 j ∧ lv = .bool (a2p (l.take j) (m1, m2)) ∧ Ext wA wr2) (fun _ kv _ => l.length - (intOf kv).toNat)
   case atStart => exact ⟨0, Nat.zero_le _, rfl, rfl, Ext.refl _⟩
   case round =>
   obtain ⟨j, hj, rfl, rfl, hext2⟩ := hrel;have HX2 := hid hext2;clear hext2
   by_cases hjl : j < l.length
   · have q1 : (j : Int) < (l.length : Int) := by omega
     have q0 : 0 ≤ (j : Int) := by omega
     obtain ⟨b9, o9, he9, c2, c3⟩ := HV.o.at_ hjl
     cases he9;have c2 := (HX.o.trans HX2.o).cell c2;have c3 := (HX.o.trans HX2.o).cell c3;have d0 := HX2.o.cell c0;have d1 := HX2.o.cell c1;have HLS := hid (b5p l (m1, m2) j hjl);have HAH := hid (fun w => a6y l[j] (m1, m2) w)
     generalize l[j] = x at *;obtain ⟨x1, x2⟩ := x;dsimp only at *
     by_cases hxy : (x1, x2) = (m1, m2)
     · have hd := a1E hxy
       have HN := hid (show a2p (l.take (j + 1)) (m1, m2) = a2p (l.take j) (m1, m2) by rw [HLS.o, decide_eq_true hxy]; simp)
       clear hxy HLS HAH;generalize a2p (l.take j) (m1, m2) = bj at *
       go_wp2
       refine a08 (by kernel_rfl) (by rfl) (by rfl) (by kernel_rfl) ?_
       refine ma ?_;refine ml2 c2 c3 ?_;refine ma ?_;refine ml2 d0 d1 ?_;refine ma ?_;refine a0s ?_;intro w5 hx5
       iterate 20 (rintro _ rfl)
       dsimp only [a0w];go_simp;have HX5 := hid (HX2.o.trans hx5);clear hx5
       go_wp2
       exact ⟨⟨j + 1, by omega, by go_num, by rw [HN.o], HX5.o⟩, by simp [intOf]; omega⟩
     have hd := a1S hxy;have hdf := decide_eq_false hxy
     cases hq : Mom.ahead (x1, x2) (m1, m2) with
     | true =>
      have HN := hid (show a2p (l.take (j + 1)) (m1, m2) = false by rw [HLS.o, hdf, hq]; simp)
      rw [hq] at HAH;clear hxy HLS hq hdf;generalize a2p (l.take j) (m1, m2) = bj at *
      go_wp2
      refine a08 (by kernel_rfl) (by rfl) (by rfl) (by kernel_rfl) ?_
      refine ma ?_;refine ml2 c2 c3 ?_;refine ma ?_;refine ml2 d0 d1 ?_;refine ma ?_;refine ml2 c2 c3 ?_;refine ma ?_;refine ml2 d0 d1 ?_;refine mc2 (.bool true) (fun w' _ => HAH.o w') ?_
      refine ma ?_;refine a0s ?_;intro w5 hx5
      iterate 20 (rintro _ rfl)
      dsimp only [a0w];go_simp;have HX5 := hid (HX2.o.trans hx5);clear hx5
      go_wp2
      exact ⟨⟨j + 1, by omega, by go_num, by rw [HN.o], HX5.o⟩, by simp [intOf]; omega⟩
     | false =>
     have HN := hid (show a2p (l.take (j + 1)) (m1, m2) = a2p (l.take j) (m1, m2) by rw [HLS.o, hdf, hq]; simp)
     rw [hq] at HAH;clear hxy HLS hq hdf;generalize a2p (l.take j) (m1, m2) = bj at *
     go_wp2
     refine a08 (by kernel_rfl) (by rfl) (by rfl) (by kernel_rfl) ?_
     refine ma ?_;refine ml2 c2 c3 ?_;refine ma ?_;refine ml2 d0 d1 ?_;refine ma ?_;refine ml2 c2 c3 ?_;refine ma ?_;refine ml2 d0 d1 ?_;refine mc2 (.bool false) (fun w' _ => HAH.o w') ?_
     refine ma ?_;refine a0s ?_;intro w5 hx5
     iterate 20 (rintro _ rfl)
     dsimp only [a0w];go_simp;have HX5 := hid (HX2.o.trans hx5);clear hx5
     go_wp2
     exact ⟨⟨j + 1, by omega, by go_num, by rw [HN.o], HX5.o⟩, by simp [intOf]; omega⟩
   obtain rfl : j = l.length := by omega
   rw [List.take_length];have q1 : ¬ (l.length : Int) < (l.length : Int) := by omega
   have hlb0 : a2p l (m1, m2) = Mom.least l (m1, m2) := rfl;rw [hlb0];clear hlb0
   go_wp2
   go_loopw [7] (fun av wr3 => ∃ j : Nat, j ≤ F.length ∧ av = .int .i64 j ∧ (∀ x ∈ F.take j, Mom.cmp x (m1, m2) < 0) ∧ Ext wA wr3) (fun av _ => F.length - (intOf av).toNat)
   case atStart => exact ⟨0, Nat.zero_le _, rfl, by simp, HX2.o⟩
   case round =>
   obtain ⟨j, hj, rfl, ha3, hext3⟩ := hrel;have HA3 := hid ha3;have HX3 := hid hext3;clear ha3 hext3
   by_cases hjF : j < F.length
   · have q1 : (j : Int) < (F.length : Int) := by omega
     have q0 : 0 ≤ (j : Int) := by omega
     obtain ⟨bF, oF, rfl, y0, y1⟩ := HO.o.rp.at_ hjF;have y0 := HX3.o.cell y0;have y1 := HX3.o.cell y1;have d0 := HX3.o.cell c0;have d1 := HX3.o.cell c1;have HLT := hid (b3R hjF HA3.o);have HCM := hid (fun w => a4H F[j] (m1, m2) w)
     generalize hFx : F[j] = x at *;obtain ⟨x1, x2⟩ := x;dsimp only at *;generalize hz : Mom.cmp (x1, x2) (m1, m2) = z at *
     by_cases hzn : z < 0
     · have HN := hid (HLT.o hzn)
       clear hz hFx
       go_wp2
       refine a08 (by kernel_rfl) (by rfl) (by rfl) (by kernel_rfl) ?_
       refine ma ?_;refine ml2 y0 y1 ?_;refine ma ?_;refine ml2 d0 d1 ?_;refine mc2 (.int .i64 z) (fun w' _ => HCM.o w') ?_
       refine ma ?_;refine a0s ?_;intro w4 hx4
       iterate 16 (rintro _ rfl)
       dsimp only [a0w];go_simp;have HX4 := hid (HX3.o.trans hx4);clear hx4
       go_wp2
       exact ⟨⟨j + 1, by omega, by go_num, HN.o, HX4.o⟩, by simp [intOf]; omega⟩
     have HZ := hid (show 0 ≤ Mom.cmp F[j] (m1, m2) by rw [hFx, hz]; omega)
     clear hz
     go_wp2
     refine a08 (by kernel_rfl) (by rfl) (by rfl) (by kernel_rfl) ?_
     refine ma ?_;refine ml2 y0 y1 ?_;refine ma ?_;refine ml2 d0 d1 ?_;refine mc2 (.int .i64 z) (fun w' _ => HCM.o w') ?_
     refine ma ?_;refine a0s ?_;intro w4 hx4
     iterate 16 (rintro _ rfl)
     dsimp only [a0w];go_simp;have HX3 := hid (HX3.o.trans hx4);have y0 := hx4.cell y0;have y1 := hx4.cell y1;have d0 := hx4.cell d0;have d1 := hx4.cell d1;clear hx4;have g3 : (j : Int) < (F.length : Int) := by omega
     have HPL := hid (b0n F (m1, m2) j (by omega) HA3.o (fun _ => Int.not_lt.2 HZ.o))
     cases hlb : Mom.least l (m1, m2) with
     | false =>
      have HLBf := hid hlb;clear hlb
      go_wp2
      refine a08 (by kernel_rfl) (by rfl) (by rfl) (by kernel_rfl) ?_
      refine ma ?_;refine a0s ?_;intro w5 hx5
      iterate 19 (rintro _ rfl)
      dsimp only [a0w];go_simp;have HX5 := hid ((HX.o.trans HX3.o).trans hx5);have HO5 := hid (HO.o.ext (HX3.o.trans hx5));clear hx5
      go_wp2
      refine ⟨⟨i + 1, by omega, by go_num, ?_, HX5.o⟩, by simp [intOf]; omega⟩
      rw [HS.o, a6D l F (m1, m2) HLBf.o];exact HO5.o
     | true =>
     have HLB := hid hlb;clear hlb;have d0 := HX3.o.cell c0;have d1 := HX3.o.cell c1
     by_cases hxy : (x1, x2) = (m1, m2)
     · have hd := a1E hxy
       have HT := hid (a9p l F (m1, m2) j HPL.o hjF (hFx.trans hxy));clear hxy
       go_wp2
       refine a08 (by kernel_rfl) (by rfl) (by rfl) (by kernel_rfl) ?_
       refine ma ?_;refine ml2 y0 y1 ?_;refine ma ?_;refine ml2 d0 d1 ?_;refine ma ?_;refine a0s ?_;intro w5 hx5
       iterate 19 (rintro _ rfl)
       dsimp only [a0w];go_simp;have HX5 := hid ((HX.o.trans HX3.o).trans hx5);have HO5 := hid (HO.o.ext (HX3.o.trans hx5));clear hx5
       go_wp2
       refine ⟨⟨i + 1, by omega, by go_num, ?_, HX5.o⟩, by simp [intOf]; omega⟩
       rw [HS.o, HT.o];exact HO5.o
     have hd := a1S hxy;have HNE := hid (show ∀ hj : j < F.length, F[j] ≠ (m1, m2) from fun _ => by rw [hFx]; exact hxy)
     clear hxy
     go_wp2
     refine a08 (by kernel_rfl) (by rfl) (by rfl) (by kernel_rfl) ?_
     refine ma ?_;refine ml2 y0 y1 ?_;refine ma ?_;refine ml2 d0 d1 ?_;refine ma ?_;refine a0s ?_;intro w5 hx5
     iterate 19 (rintro _ rfl)
     dsimp only [a0w];go_simp;have d0 := hx5.cell d0;have d1 := hx5.cell d1;have HX5 := hid ((HX.o.trans HX3.o).trans hx5);have HO5 := hid (HO.o.ext (HX3.o.trans hx5));clear hx5
     go_wp2
     have HB := hid (Below.refl w5.heap.size w5);obtain ⟨hhi, rhi⟩ := RP.hi (k := j) a3p HO5.o.rp (by omega)
     obtain ⟨A9, hlo, rlo⟩ := RP.lo (k := j) a3p HO5.o.rp (by omega)
     have HHI := hid rhi;have HLO := hid rlo;clear rhi rlo;have hlt1 : (F.take j).length ≤ 1000000 := by rw [List.length_take]; omega
     have hlt2 : (F.drop j).length ≤ 1000000 := by rw [List.length_drop]; omega
     have HL1 := hid hlt1;have HL2 := hid hlt2;clear hlt1 hlt2;refine a0Y 14 [87] [77, 81, 86] (fun a b => Ext a b ∧ Below (w5.heap.size) a b) (Below (w5.heap.size)) (fun _ => True) (by kernel_rfl) (by kernel_rfl) (by kernel_rfl) (by kernel_rfl) (by kernel_rfl) (by kernel_rfl) (by kernel_rfl) (by rfl) (by rfl) (by kernel_rfl) (by kernel_rfl) (by kernel_rfl) (fun _ _ _ x y => x.trans y) (Below.refl _) (fun _ _ x => x.2) (fun w => ⟨Ext.refl w, Below.refl _ w⟩) ⟨(Ext.refl _).drew, (Below.refl _ _).drew⟩ (fun _ _ _ _ => trivial) trivial ?_
     refine a0X (fun c v w => c ≤ 0 → E0 w5.heap.size 29 v w) rfl rfl (a03 rfl) rfl (a2U fun _ _ _ h k => E0.ext h k.1) ?_ ?_
     · intro a w' hR hS  K hK
       go_simp;exact hK _ _ ⟨(Ext.refl _).alloc _, (Below.refl _ _).alloc hR.size _⟩ fun _ => E0.new _ _ hR.size
     repeat (first | (refine a0q rfl rfl (fun _ => (a03 rfl)) (fun w => ⟨Ext.refl w, Below.refl _ w⟩) rfl rfl (fun _ => rfl) ?_; apply Exists.intro; refine ⟨?_, ?_⟩; · (go_simp; rfl)) | (refine a0t rfl rfl (fun _ => (a03 rfl)) (fun w => ⟨Ext.refl w, Below.refl _ w⟩) rfl ?_; apply Exists.intro; refine ⟨?_, ?_⟩; · (intro c a w' hR; (try (intro h1; try have e1 : _ = _ := h1)); (try (intro h2; try have e2 : _ = _ := h2)); (try (intro h3; try have e3 : _ = _ := h3)); go_simp; rfl)))
     refine a0X (fun c v w => c ≤ 0 → OP 29 w5.heap.size w v (F.take j)) rfl rfl (a03 rfl) rfl (a2U fun _ _ _ h k => OP.ext h k.1) ?_ ?_
     · intro a w' hR hS h1 h2 K hK
       obtain ⟨x, ex, fx⟩ : ∃ x, a.tmps.getD 77 undef = x ∧ (fun v w => 0 ≤ 0 → E0 w5.heap.size 29 v w) x w' := ⟨_, rfl, h1⟩
       have e2 : _ = _ := h2;refine b1C a3p _ (.tmp 77) (.tmp 80) rfl x ex (fx (Nat.le_refl _)) _ (F.take j).length (pV (F.take j)) (e2 : a.tmps.getD 80 undef = _) (HHI.o.ext (show Ext w5 w' from hR)).rd (a4x _) (by have := HL1.o; omega) (by have := HL1.o; unfold maxLen; omega) ?_
       intro v' w2 he ho;exact hK _ _ ⟨he, Below.mono he hR.size⟩ fun _ => O0.op ho
     repeat (first | (refine a0q rfl rfl (fun _ => (a03 rfl)) (fun w => ⟨Ext.refl w, Below.refl _ w⟩) rfl rfl (fun _ => rfl) ?_; apply Exists.intro; refine ⟨?_, ?_⟩; · (go_simp; rfl)) | (refine a0t rfl rfl (fun _ => (a03 rfl)) (fun w => ⟨Ext.refl w, Below.refl _ w⟩) rfl ?_; apply Exists.intro; refine ⟨?_, ?_⟩; · (intro c a w' hR; (try (intro h1; try have e1 : _ = _ := h1)); (try (intro h2; try have e2 : _ = _ := h2)); (try (intro h3; try have e3 : _ = _ := h3)); go_simp; rfl)))
     refine a0t rfl rfl (fun _ => (a03 rfl)) (fun w => ⟨Ext.refl w, Below.refl _ w⟩) rfl ?_; apply Exists.intro; refine ⟨?_, ?_⟩
     · intro c a w' hR h1
       have e1 : _ = _ := h1;have hl0 := (show Ext w5 w' from hR).cell d0;have hl1 := (show Ext w5 w' from hR).cell d1;go_simp;rfl
     refine a0X (fun c v w => c ≤ 0 → RP w v [(m1, m2)]) rfl rfl (a03 rfl) rfl (a2U fun _ _ _ h k => RP.ext h k.1) ?_ ?_
     · intro a w' hR hS h1 K hK
       have e1 : _ = _ := h1;have q9 : a.tmps[85]?.getD undef = .agg #[.int .i64 m1, .int .i64 m2] := by simpa using e1
       go_simp;exact hK _ _ ⟨(Ext.refl _).alloc _, (Below.refl _ _).alloc hR.size _⟩ fun _ => RP.lit _ #[.int .i64 m1, .int .i64 m2] 29 1 [(m1, m2)] rfl (by omega) rfl
     refine a3r (fun c v w => 1 ≤ c ∧ (c ≤ 1 → OP 29 w5.heap.size w v (F.take j ++ [(m1, m2)]))) (fun _ => True) rfl (a03 rfl) rfl (a3G fun _ _ _ h k => OP.ext h k.1) (fun _ _ _ _ => trivial) ?_ ?_
     · intro a w' hR hS h1 h2 K hK
       obtain ⟨x, ex, fx⟩ : ∃ x, a.tmps.getD 81 undef = x ∧ (fun v w => 0 ≤ 0 → OP 29 w5.heap.size w v (F.take j)) x w' := ⟨_, rfl, h1⟩
       obtain ⟨y, ey, fy⟩ : ∃ x, a.tmps.getD 86 undef = x ∧ (fun v w => 0 ≤ 0 → RP w v [(m1, m2)]) x w' := ⟨_, rfl, h2⟩
       have hfx := fx (Nat.le_refl _);have hfy := fy (Nat.le_refl _);refine a7s a3p _ (.tmp 81) (.tmp 86) rfl w5.heap.size x (F.take j).length (pV (F.take j)) ex hfx.own y 1 (pV [(m1, m2)]) ey hfy.rd (a4x _) (by have := HL1.o; omega) (by have := HL1.o; unfold maxLen; omega) hR.size ?_
       intro v' w2 ha;exact hK _ _ (Below.grown (Below.refl _ _) ha.grown hR.size fun k hk => (hfx.own.lt k hk).1) trivial ⟨Nat.le_refl _, fun _ => OP.app ha.own⟩
     repeat (first | (refine a0q rfl rfl (fun _ => (a03 rfl)) (fun w => ⟨Ext.refl w, Below.refl _ w⟩) rfl rfl (fun _ => rfl) ?_; apply Exists.intro; refine ⟨?_, ?_⟩; · (go_simp; rfl)) | (refine a0t rfl rfl (fun _ => (a03 rfl)) (fun w => ⟨Ext.refl w, Below.refl _ w⟩) rfl ?_; apply Exists.intro; refine ⟨?_, ?_⟩; · (intro c a w' hR; (try (intro h1; try have e1 : _ = _ := h1)); (try (intro h2; try have e2 : _ = _ := h2)); (try (intro h3; try have e3 : _ = _ := h3)); go_simp; rfl)))
     refine a3F ?_;intro w6 hx6 hS6;rintro v77 h77
     iterate 3 (rintro _ rfl)
     rintro v81 h81
     iterate 4 (rintro _ rfl)
     rintro v86 h86;rintro v87 h87
     iterate 3 (rintro _ rfl)
     dsimp only [a0w];go_simp;have hx6 : Ext w5 w6 := hx6;have HX6 := hid hx6;have HO7 := hid (h87.2 (Nat.le_refl _));clear hx6 h77 h81 h86 h87 hS6 hhi hlo;simp only [a0r, List.drop_succ_cons, List.drop_zero]
     go_wp2_with (refine a0y rfl a3p w6 (.tmp 87) (.tmp 90) rfl w5.heap.size v87 _ _ rfl HO7.o.own _ (F.drop j).length (pV (F.drop j)) rfl (HLO.o.ext HX6.o).rd (a4x _) (by have := HL1.o; have := HL2.o; rw [List.length_append, List.length_singleton]; omega) (by have := HL1.o; have := HL2.o; rw [List.length_append, List.length_singleton]; unfold maxLen; omega) HX6.o.size ?_; intro v8 w8 ha)
     refine ⟨⟨i + 1, by omega, by go_num, ?_, HX5.o.trans (ha.ext HX6.o rfl HO7.o.own)⟩, by simp [intOf]; omega⟩
     rw [HS.o, a8w l F (m1, m2) j HLB.o HPL.o HNE.o];exact (OP.app ha.own).low HX5.o.size
   have q1 : ¬ (j : Int) < (F.length : Int) := by omega
   go_wp2
   refine a08 (by kernel_rfl) (by rfl) (by rfl) (by kernel_rfl) ?_
   refine ma ?_;refine a0s ?_;intro w4 hx4
   iterate 16 (rintro _ rfl)
   dsimp only [a0w];go_simp;have HX3 := hid (HX3.o.trans hx4);clear hx4;have HPL := hid (b0n F (m1, m2) j hj HA3.o (fun h => absurd h hjF))
   have HNE := hid (show ∀ hj : j < F.length, F[j] ≠ (m1, m2) from fun h => absurd h hjF)
   cases hlb : Mom.least l (m1, m2) with
   | false =>
    have HLBf := hid hlb;clear hlb
    go_wp2
    refine a08 (by kernel_rfl) (by rfl) (by rfl) (by kernel_rfl) ?_
    refine ma ?_;refine a0s ?_;intro w5 hx5
    iterate 19 (rintro _ rfl)
    dsimp only [a0w];go_simp;have HX5 := hid ((HX.o.trans HX3.o).trans hx5);have HO5 := hid (HO.o.ext (HX3.o.trans hx5));clear hx5
    go_wp2
    refine ⟨⟨i + 1, by omega, by go_num, ?_, HX5.o⟩, by simp [intOf]; omega⟩
    rw [HS.o, a6D l F (m1, m2) HLBf.o];exact HO5.o
   | true =>
   have HLB := hid hlb;clear hlb
   go_wp2
   refine a08 (by kernel_rfl) (by rfl) (by rfl) (by kernel_rfl) ?_
   refine ma ?_;refine a0s ?_;intro w5 hx5
   iterate 19 (rintro _ rfl)
   dsimp only [a0w];go_simp;have d0 := HX3.o.cell c0;have d1 := HX3.o.cell c1;have d0 := hx5.cell d0;have d1 := hx5.cell d1;have HX5 := hid ((HX.o.trans HX3.o).trans hx5);have HO5 := hid (HO.o.ext (HX3.o.trans hx5));clear hx5
   go_wp2
   have HB := hid (Below.refl w5.heap.size w5);obtain ⟨hhi, rhi⟩ := RP.hi (k := j) a3p HO5.o.rp (by omega)
   obtain ⟨A9, hlo, rlo⟩ := RP.lo (k := j) a3p HO5.o.rp (by omega)
   have HHI := hid rhi;have HLO := hid rlo;clear rhi rlo;have hlt1 : (F.take j).length ≤ 1000000 := by rw [List.length_take]; omega
   have hlt2 : (F.drop j).length ≤ 1000000 := by rw [List.length_drop]; omega
   have HL1 := hid hlt1;have HL2 := hid hlt2;clear hlt1 hlt2;refine a0Y 14 [87] [77, 81, 86] (fun a b => Ext a b ∧ Below (w5.heap.size) a b) (Below (w5.heap.size)) (fun _ => True) (by kernel_rfl) (by kernel_rfl) (by kernel_rfl) (by kernel_rfl) (by kernel_rfl) (by kernel_rfl) (by kernel_rfl) (by rfl) (by rfl) (by kernel_rfl) (by kernel_rfl) (by kernel_rfl) (fun _ _ _ x y => x.trans y) (Below.refl _) (fun _ _ x => x.2) (fun w => ⟨Ext.refl w, Below.refl _ w⟩) ⟨(Ext.refl _).drew, (Below.refl _ _).drew⟩ (fun _ _ _ _ => trivial) trivial ?_
   refine a0X (fun c v w => c ≤ 0 → E0 w5.heap.size 29 v w) rfl rfl (a03 rfl) rfl (a2U fun _ _ _ h k => E0.ext h k.1) ?_ ?_
   · intro a w' hR hS  K hK
     go_simp;exact hK _ _ ⟨(Ext.refl _).alloc _, (Below.refl _ _).alloc hR.size _⟩ fun _ => E0.new _ _ hR.size
   repeat (first | (refine a0q rfl rfl (fun _ => (a03 rfl)) (fun w => ⟨Ext.refl w, Below.refl _ w⟩) rfl rfl (fun _ => rfl) ?_; apply Exists.intro; refine ⟨?_, ?_⟩; · (go_simp; rfl)) | (refine a0t rfl rfl (fun _ => (a03 rfl)) (fun w => ⟨Ext.refl w, Below.refl _ w⟩) rfl ?_; apply Exists.intro; refine ⟨?_, ?_⟩; · (intro c a w' hR; (try (intro h1; try have e1 : _ = _ := h1)); (try (intro h2; try have e2 : _ = _ := h2)); (try (intro h3; try have e3 : _ = _ := h3)); go_simp; rfl)))
   refine a0X (fun c v w => c ≤ 0 → OP 29 w5.heap.size w v (F.take j)) rfl rfl (a03 rfl) rfl (a2U fun _ _ _ h k => OP.ext h k.1) ?_ ?_
   · intro a w' hR hS h1 h2 K hK
     obtain ⟨x, ex, fx⟩ : ∃ x, a.tmps.getD 77 undef = x ∧ (fun v w => 0 ≤ 0 → E0 w5.heap.size 29 v w) x w' := ⟨_, rfl, h1⟩
     have e2 : _ = _ := h2;refine b1C a3p _ (.tmp 77) (.tmp 80) rfl x ex (fx (Nat.le_refl _)) _ (F.take j).length (pV (F.take j)) (e2 : a.tmps.getD 80 undef = _) (HHI.o.ext (show Ext w5 w' from hR)).rd (a4x _) (by have := HL1.o; omega) (by have := HL1.o; unfold maxLen; omega) ?_
     intro v' w2 he ho;exact hK _ _ ⟨he, Below.mono he hR.size⟩ fun _ => O0.op ho
   repeat (first | (refine a0q rfl rfl (fun _ => (a03 rfl)) (fun w => ⟨Ext.refl w, Below.refl _ w⟩) rfl rfl (fun _ => rfl) ?_; apply Exists.intro; refine ⟨?_, ?_⟩; · (go_simp; rfl)) | (refine a0t rfl rfl (fun _ => (a03 rfl)) (fun w => ⟨Ext.refl w, Below.refl _ w⟩) rfl ?_; apply Exists.intro; refine ⟨?_, ?_⟩; · (intro c a w' hR; (try (intro h1; try have e1 : _ = _ := h1)); (try (intro h2; try have e2 : _ = _ := h2)); (try (intro h3; try have e3 : _ = _ := h3)); go_simp; rfl)))
   refine a0t rfl rfl (fun _ => (a03 rfl)) (fun w => ⟨Ext.refl w, Below.refl _ w⟩) rfl ?_; apply Exists.intro; refine ⟨?_, ?_⟩
   · intro c a w' hR h1
     have e1 : _ = _ := h1;have hl0 := (show Ext w5 w' from hR).cell d0;have hl1 := (show Ext w5 w' from hR).cell d1;go_simp;rfl
   refine a0X (fun c v w => c ≤ 0 → RP w v [(m1, m2)]) rfl rfl (a03 rfl) rfl (a2U fun _ _ _ h k => RP.ext h k.1) ?_ ?_
   · intro a w' hR hS h1 K hK
     have e1 : _ = _ := h1;have q9 : a.tmps[85]?.getD undef = .agg #[.int .i64 m1, .int .i64 m2] := by simpa using e1
     go_simp;exact hK _ _ ⟨(Ext.refl _).alloc _, (Below.refl _ _).alloc hR.size _⟩ fun _ => RP.lit _ #[.int .i64 m1, .int .i64 m2] 29 1 [(m1, m2)] rfl (by omega) rfl
   refine a3r (fun c v w => 1 ≤ c ∧ (c ≤ 1 → OP 29 w5.heap.size w v (F.take j ++ [(m1, m2)]))) (fun _ => True) rfl (a03 rfl) rfl (a3G fun _ _ _ h k => OP.ext h k.1) (fun _ _ _ _ => trivial) ?_ ?_
   · intro a w' hR hS h1 h2 K hK
     obtain ⟨x, ex, fx⟩ : ∃ x, a.tmps.getD 81 undef = x ∧ (fun v w => 0 ≤ 0 → OP 29 w5.heap.size w v (F.take j)) x w' := ⟨_, rfl, h1⟩
     obtain ⟨y, ey, fy⟩ : ∃ x, a.tmps.getD 86 undef = x ∧ (fun v w => 0 ≤ 0 → RP w v [(m1, m2)]) x w' := ⟨_, rfl, h2⟩
     have hfx := fx (Nat.le_refl _);have hfy := fy (Nat.le_refl _);refine a7s a3p _ (.tmp 81) (.tmp 86) rfl w5.heap.size x (F.take j).length (pV (F.take j)) ex hfx.own y 1 (pV [(m1, m2)]) ey hfy.rd (a4x _) (by have := HL1.o; omega) (by have := HL1.o; unfold maxLen; omega) hR.size ?_
     intro v' w2 ha;exact hK _ _ (Below.grown (Below.refl _ _) ha.grown hR.size fun k hk => (hfx.own.lt k hk).1) trivial ⟨Nat.le_refl _, fun _ => OP.app ha.own⟩
   repeat (first | (refine a0q rfl rfl (fun _ => (a03 rfl)) (fun w => ⟨Ext.refl w, Below.refl _ w⟩) rfl rfl (fun _ => rfl) ?_; apply Exists.intro; refine ⟨?_, ?_⟩; · (go_simp; rfl)) | (refine a0t rfl rfl (fun _ => (a03 rfl)) (fun w => ⟨Ext.refl w, Below.refl _ w⟩) rfl ?_; apply Exists.intro; refine ⟨?_, ?_⟩; · (intro c a w' hR; (try (intro h1; try have e1 : _ = _ := h1)); (try (intro h2; try have e2 : _ = _ := h2)); (try (intro h3; try have e3 : _ = _ := h3)); go_simp; rfl)))
   refine a3F ?_;intro w6 hx6 hS6;rintro v77 h77
   iterate 3 (rintro _ rfl)
   rintro v81 h81
   iterate 4 (rintro _ rfl)
   rintro v86 h86;rintro v87 h87
   iterate 3 (rintro _ rfl)
   dsimp only [a0w];go_simp;have hx6 : Ext w5 w6 := hx6;have HX6 := hid hx6;have HO7 := hid (h87.2 (Nat.le_refl _));clear hx6 h77 h81 h86 h87 hS6 hhi hlo;simp only [a0r, List.drop_succ_cons, List.drop_zero]
   go_wp2_with (refine a0y rfl a3p w6 (.tmp 87) (.tmp 90) rfl w5.heap.size v87 _ _ rfl HO7.o.own _ (F.drop j).length (pV (F.drop j)) rfl (HLO.o.ext HX6.o).rd (a4x _) (by have := HL1.o; have := HL2.o; rw [List.length_append, List.length_singleton]; omega) (by have := HL1.o; have := HL2.o; rw [List.length_append, List.length_singleton]; unfold maxLen; omega) HX6.o.size ?_; intro v8 w8 ha)
   refine ⟨⟨i + 1, by omega, by go_num, ?_, HX5.o.trans (ha.ext HX6.o rfl HO7.o.own)⟩, by simp [intOf]; omega⟩
   rw [HS.o, a8w l F (m1, m2) j HLB.o HPL.o HNE.o];exact (OP.app ha.own).low HX5.o.size
 obtain rfl : i = l.length := by omega
 rw [List.take_length] at HO;have g1 : ¬ (l.length : Int) < (l.length : Int) := by omega
 generalize hF : l.foldl (Mom.a0p l) [] = F at *;obtain ⟨AF, cF, rfl⟩ := HO.o.rp.form;have HF := hid hF;clear hF
 go_wp2
 go_ret
 refine ⟨_, rfl, ?_, HX.o⟩;unfold Mom.a1v;rw [HF.o];exact HO.o
end Go.Proofs.YtdkejfjcchlnpaaGreat.Mo
