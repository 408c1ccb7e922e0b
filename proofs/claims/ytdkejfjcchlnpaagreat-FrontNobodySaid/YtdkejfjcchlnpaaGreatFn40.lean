/-
  MomFront, MomFew, Fr2, packed: what the claim needs of them.
-/
import Derived.Test.YtdkejfjcchlnpaaGreatFn39
set_option maxHeartbeats 40000000
open Go.Lib (hid)
set_option linter.unusedSimpArgs false
set_option linter.unusedVariables false
set_option maxRecDepth 100000
namespace Go.Proofs.YtdkejfjcchlnpaaGreat.Mo
open Go.RowKit Go.Ox Go.Shelf
attribute [local irreducible] OP RP
theorem step_take (s : List Mom.M) (k : Nat) (h : k < s.length) : Mom.front (s.take (k + 1)) = Mom.step (Mom.front (s.take k)) s[k] := by
 unfold Mom.front;rw [List.take_succ_eq_append_getElem h, List.foldl_append]; rfl
theorem a4y : ∀ (s out : List Mom.M), (s.foldl Mom.step out).length ≤ out.length + s.length
 | [], out => by simp
 | m :: s, out => by
  have := a4y s (Mom.step out m);have h2 : (Mom.step out m).length ≤ out.length + 1 := by unfold Mom.step; split <;> simp
  rw [List.foldl_cons, List.length_cons]; omega
def b0W (l : List Mom.M) (w : World) (e : Ending) (w' : World) : Prop :=
 ∃ s : List Mom.M, s.Perm l ∧ s.Pairwise (fun a b => ¬ Mom.lt b a) ∧ Ext w w' ∧
  ((256 < (Mom.front s).length ∧ e = .returned (.tuple #[.slice none 0 0, .int .i64 31])) ∨
   ((Mom.front s).length ≤ 256 ∧ ∃ v, e = .returned (.tuple #[v, .int .i64 0]) ∧ OP 29 w.heap.size w' v (Mom.front s)))
theorem b2t (v : Value) (l : List Mom.M) (w : World) (hv : RP w v l) (hl : l.length ≤ 1000000) (hb : (l.any fun x => !Mom.ok x) = false) :
 Calls Tryz.prog 49 #[v] w (b0W l w) := by
 have eg : ∀ args w, (callFunc 79 args).run Tryz.prog w = .ok (.enter 79 args) w := enters_of Tryz.func79 (by kernel_rfl) rfl
 have HC := hid (a2J (fun x => !Mom.ok x) 79 #[] eg v l w hv (a6g w) (by omega))
 rw [hb] at HC;obtain ⟨A, c, rfl⟩ := hv.form;have HV := hid hv;clear eg hv hb
 go_enter Tryz.func49, Tryz.ntmps49
 go_wp2_with fail
 refine HC.o.mono ?_;rintro e w1 ⟨rfl, he1⟩
 go_wp2_with fail
 refine (a8r _ l w1 (HV.o.ext he1) (by omega)).mono ?_
 rintro e w2 ⟨v2, rfl, ho2, he2⟩;have HO2 := hid ho2;obtain ⟨A2, c2, rfl⟩ := ho2.rp.form;have HX2 := hid (he1.trans he2);clear ho2
 go_wp2_with fail
 refine (b0V _ l w1.heap.size w2 HO2.o (by omega)).mono ?_
 rintro e w3 ⟨rfl, s, hp, hs, ho3, hg3⟩;have hx3 : Ext w w3 := HX2.o.grown hg3 fun k hk => Nat.le_trans he1.size (HO2.o.own.lt k hk).1
 have hsl := hp.length_eq;have HS3 := hid ho3.rp;have HX3 := hid hx3;have HP := hid hp;have HQ := hid hs;have HL := hid hsl;rw [← hsl] at HS3 ⊢;rw [← hsl] at hl;clear hp hs ho3 hg3 hx3 hsl he1 he2 HO2 HX2
 go_wp2
 go_loopw [5, 16] (fun o i wr => ∃ k : Nat, k ≤ s.length ∧ i = .int .i64 k ∧ OP 29 w3.heap.size wr o (Mom.front (s.take k)) ∧ Ext w3 wr) (fun _ i _ => s.length - (intOf i).toNat)
 case atStart => exact ⟨0, Nat.zero_le _, rfl, OP.a2F _ _ _, Ext.refl _⟩
 case round =>
 obtain ⟨k, hk, rfl, ho, hext⟩ := hrel;have HO := hid ho;have HE := hid hext;have HS := hid (HS3.o.ext hext);clear ho hext
 by_cases hlt : k < s.length
 · have g1 : (k : Int) < (s.length : Int) := by omega
   have g0 : 0 ≤ (k : Int) := by omega
   obtain ⟨b, o, rfl, c0, c1⟩ := HS.o.at_ hlt;have hst := step_take s k hlt;have hfl := a4y (s.take k) [];rw [List.length_nil, Nat.zero_add, List.length_take, Nat.min_eq_left hk] at hfl;have HST := hid hst;have hfl : (Mom.front (s.take k)).length ≤ k := hfl;clear hst;generalize hF : Mom.front (s.take k) = F at *;obtain ⟨A5, c5, rfl⟩ := HO.o.rp.form;generalize s[k] = m at *;obtain ⟨m1, m2⟩ := m;dsimp only at *;have HF := hid hF;clear hF;have HCO := hid (fun w5 (he : Ext wr w5) => a3f _ F (m1, m2) w5 (HO.o.rp.ext he) (by omega))
   cases hq : Mom.a1G F (m1, m2) with
   | true =>
    rw [hq] at HCO
    go_wp2_with fail
    refine (HCO.o _ ((Ext.refl _).alloc _)).mono ?_;rintro e w5 ⟨rfl, he5⟩;have HX5 := hid (((Ext.refl wr).alloc _).trans he5);clear he5
    go_wp2
    refine ⟨⟨k + 1, by omega, by go_num, ?_, HE.o.trans HX5.o⟩, by simp [intOf]; omega⟩
    rw [HST.o];unfold Mom.step;rw [if_pos hq];exact HO.o.ext HX5.o
   | false =>
   rw [hq] at HCO
   go_wp2_with fail
   refine (HCO.o _ ((Ext.refl _).alloc _)).mono ?_;rintro e w5 ⟨rfl, he5⟩;have hx5 : Ext wr w5 := ((Ext.refl wr).alloc _).trans he5;have hm := Blk.new wr 29 #[.int .i64 m1, .int .i64 m2];obtain ⟨d0, d1⟩ : w5.cell? ⟨wr.heap.size, 0, none⟩ = some (.int .i64 m1) ∧ w5.cell? ⟨wr.heap.size, 1, none⟩ = some (.int .i64 m2) := ⟨(hm.ext he5).cell 0, (hm.ext he5).cell 1⟩;have HX5 := hid hx5;have HLT := hid (RP.lit w5 #[.int .i64 m1, .int .i64 m2] 29 1 [(m1, m2)] rfl (by omega) rfl)
   have HO5 := hid ((HO.o.ext hx5).ext ((Ext.refl _).alloc (.cells #[.int .i64 m1, .int .i64 m2] 29))).own;have hz : w3.heap.size ≤ (w5.alloc (.cells #[.int .i64 m1, .int .i64 m2] 29)).heap.size := Nat.le_trans HE.o.size (hx5.alloc _).size;have HZ := hid hz;clear he5 hx5 hm hz
   go_wp2_with (at_builtin; refine a0J rfl b1u _ _ _ rfl w3.heap.size _ F.length _ rfl HO5.o _ 1 _ rfl HLT.o.rd (b2G _) (by omega) (by unfold maxLen; omega) HZ.o ?_; intro v6 w6 ha)
   refine ⟨⟨k + 1, by omega, by go_num, ?_, ?_⟩, by simp [intOf]; omega⟩
   · rw [HST.o]
     unfold Mom.step;rw [if_neg (by rw [hq]; simp)]
     exact OP.app ha.own
   exact ha.ext (HE.o.trans (HX5.o.alloc _)) rfl HO5.o
 obtain rfl : k = s.length := by omega
 rw [List.take_length] at HO;obtain ⟨A5, c5, rfl⟩ := HO.o.rp.form
 by_cases h256 : 256 < (Mom.front s).length
 · have g1 : (256 : Int) < ((Mom.front s).length : Int) := by omega
   generalize hF : Mom.front s = F at *;have HF := hid hF;clear hF
   go_wp2
   go_ret2
   refine ⟨s, HP.o, HQ.o, HX3.o.trans HE.o, .inl ⟨by rw [HF.o]; exact h256, rfl⟩⟩
 have g1 : ¬ (256 : Int) < ((Mom.front s).length : Int) := by omega
 generalize hF : Mom.front s = F at *;have HF := hid hF;clear hF
 go_wp2
 go_ret2
 refine ⟨s, HP.o, HQ.o, HX3.o.trans HE.o, .inr ⟨by rw [HF.o]; omega, _, rfl, by rw [HF.o]; exact HO.o.low HX3.o.size⟩⟩
end Go.Proofs.YtdkejfjcchlnpaaGreat.Mo
namespace Go.Proofs.YtdkejfjcchlnpaaGreat.Mo
open Go.RowKit Go.Ox
def FrontR (l : List Mom.M) (w : World) (e : Ending) (w' : World) : Prop :=
 Ext w w' ∧
  ((256 < (Mom.a2s l).length ∧ e = .returned (.tuple #[.slice none 0 0, .int .i64 31])) ∨
   ((Mom.a2s l).length ≤ 256 ∧ ∃ v, e = .returned (.tuple #[v, .int .i64 0]) ∧ OP 29 w.heap.size w' v (Mom.a2s l)))
theorem a2m (v : Value) (l : List Mom.M) (w : World) (hv : RP w v l) (hl : l.length ≤ 1000000) (hb : (l.any fun x => !Mom.ok x) = false) :
 Calls Tryz.prog 49 #[v] w (FrontR l w) := by
 refine (b2t v l w hv hl hb).mono ?_;rintro e w' ⟨s, hp, hs, hx, h⟩;rw [Mom.front_eq hs (fun k => (hp.mem_iff).symm)] at h
 exact ⟨hx, h⟩
instance (a b : Mom.M) : Decidable (Mom.lt a b) := by unfold Mom.lt; infer_instance
theorem b0X (l : List Mom.M) : ∃ s : List Mom.M, s.Perm l ∧ s.Pairwise fun a b => ¬ Mom.lt b a := by
 refine ⟨l.mergeSort (fun a b => decide (¬ Mom.lt b a)), List.mergeSort_perm l _, ?_⟩
 have h := List.pairwise_mergeSort (le := fun a b : Mom.M => decide (¬ Mom.lt b a)) (fun a b c h1 h2 => by
  simp only [decide_eq_true_eq] at *
  unfold Mom.lt at *; omega) (fun a b => by
  simp only [Bool.or_eq_true, decide_eq_true_eq]
  unfold Mom.lt at *; omega) l
 exact h.imp fun h => by simpa using h
theorem b0Y (l : List Mom.M) : ∃ s : List Mom.M, s.Perm l ∧ (s.Pairwise fun a b => ¬ Mom.lt b a) ∧ Mom.a2s l = Mom.front s := by
 obtain ⟨s, hp, hs⟩ := b0X l;exact ⟨s, hp, hs, (Mom.front_eq hs fun k => hp.mem_iff.symm).symm⟩
theorem a94 (l : List Mom.M) : (Mom.a2s l).length ≤ l.length := by
 obtain ⟨s, hp, hs, he⟩ := b0Y l;rw [he];have h1 := a4y s [];have h2 := hp.length_eq;simp only [List.length_nil] at h1;unfold Mom.front;omega
theorem b0Z (v : Value) (l : List Mom.M) (w : World) (hv : RP w v l) (hl : l.length ≤ 256) (hb : (l.any fun x => !Mom.ok x) = false) :
 Calls Tryz.prog 49 #[v] w fun e w' => ∃ v', e = .returned (.tuple #[v', .int .i64 0]) ∧ RP w' v' (Mom.a2s l) ∧ Ext w w' := by
 refine (a2m v l w hv (by omega) hb).mono ?_
 rintro e w' ⟨hx, ⟨hlt, _⟩ | ⟨_, v', rfl, ho⟩⟩
 · have := a94 l; omega
 exact ⟨v', rfl, ho.rp, hx⟩
end Go.Proofs.YtdkejfjcchlnpaaGreat.Mo
namespace Go.Ox.Fr
open Go.Ox.Gr Go.Ox.Pl Go.Proofs.YtdkejfjcchlnpaaGreat Go.Proofs.YtdkejfjcchlnpaaGreat.Mo
theorem cm1_ok {g : G} {q : P2} {s : Cnt.S} {m : Mom.M} (h : cm1 g q s = some m) : Mom.ok m = true := by
 unfold cm1 at h
 cases hw : b1n g s.1.1 q with
 | none => rw [hw] at h; cases h
 | some x =>
 rw [hw] at h;simp only [Option.bind_some] at h
 split at h
 · rename_i h0
   injection h with h
   rw [← h, b0M h0];exact (a8e.1 h0).2.2.2
 cases h
theorem b2u (g : G) (L : List Cnt.S) (q : P2) (but : Cnt.S → Bool) : ((comes g L q but).any fun x => !Mom.ok x) = false := by
 rw [List.any_eq_false];intro m hm;obtain ⟨s, hs, h⟩ := List.mem_filterMap.1 hm;unfold cmB at h
 split at h
 · cases h
 rw [cm1_ok h]; simp
def a3E (g : G) (L : List Cnt.S) (q : P2) (m : Mom.M) : Bool := if may g q = 0 ∧ Mom.ok m = true then !Mom.a1G (comes g L q no) m else false
def due (g : G) (L : List Cnt.S) (q : P2) (m : Mom.M) : Bool := if may g q = 0 ∧ Mom.ok m = true then !Mom.a1G (comes g L q (own q m)) m else false
end Go.Ox.Fr
namespace Go.Proofs.YtdkejfjcchlnpaaGreat
open Go.RowKit Go.Ox Go.Ox.Gr Mo Ct
attribute [local irreducible] RE OE a00
theorem b38 (d : Nat) (v : Value) (g : G) (gc b : Nat) (L : List Cnt.S) (q : Pl.P2) (w : World) (hv : a00 d w v g.1) (hn : (gPl g).length ≤ 20) (hc : CM w gc b L) (hl : L.length ≤ 256) :
 Calls Tryz.prog 17 #[gAg v g.2, .pointer (some ⟨gc, 0, none⟩), plV q] w fun e w' => ∃ u, e = .returned (.tuple #[u, .int .i64 (Fr.may g q)]) ∧ RP w' u (if Fr.may g q = 0 then Mom.a2s (Fr.comes g L q Fr.no) else []) ∧ Ext w w' := by
 have HMY := hid (fun W (h : Ext w W) => a3Q d v g q W (hv.ext h))
 have HCO := hid (fun W (h : Ext w W) => a5p d v g gc b L q W (hv.ext h) hn (hc.ext h) (by omega))
 have HFW := hid (fun u W (h : RP W u (Fr.comes g L q Fr.no)) => b0Z u (Fr.comes g L q Fr.no) W h (by have := Fr.a4x g L q Fr.no; omega) (by exact Fr.b2u g L q Fr.no))
 obtain ⟨l, out⟩ := g;simp only at hv;generalize (Fr.comes (l, out) L q Fr.no) = CL at *;generalize Fr.may (l, out) q = MY at *;obtain ⟨A, c, rfl⟩ := hv.form;obtain ⟨q1, q2⟩ := q;have HX := hid (show Ext w ((w.alloc (.cells #[.slice A l.length c, .int .i64 out] 24)).alloc (.cells #[.int .i64 q1, .int .i64 q2] 27)) from a0s [(#[.slice A l.length c, .int .i64 out], 24), (#[.int .i64 q1, .int .i64 q2], 27)] w);have HB0 := hid (show Blk ((w.alloc (.cells #[.slice A l.length c, .int .i64 out] 24)).alloc (.cells #[.int .i64 q1, .int .i64 q2] 27)) (w.heap.size) 24 #[.slice A l.length c, .int .i64 out] from a08 [(#[.slice A l.length c, .int .i64 out], 24), (#[.int .i64 q1, .int .i64 q2], 27)] w 0 _ _ rfl);have HB1 := hid (show Blk ((w.alloc (.cells #[.slice A l.length c, .int .i64 out] 24)).alloc (.cells #[.int .i64 q1, .int .i64 q2] 27)) (w.heap.size + 1) 27 #[.int .i64 q1, .int .i64 q2] from a08 [(#[.slice A l.length c, .int .i64 out], 24), (#[.int .i64 q1, .int .i64 q2], 27)] w 1 _ _ rfl);clear hv
 go_enter Tryz.func17, Tryz.ntmps17
 go_upto_region 1 with fail
 generalize w.heap.size = bn at *;generalize (w.alloc (.cells #[.slice A l.length c, .int .i64 out] 24)).alloc (.cells #[.int .i64 q1, .int .i64 q2] 27) = w0 at *;have c00 := HB0.o.c0;have c01 := HB0.o.c1;have c10 := HB1.o.c0;have c11 := HB1.o.c1
 go_wp2_with fail
 refine (HMY.o w0 HX.o).mono ?_;rintro e w1 ⟨rfl, he⟩;clear c00 c01 c10 c11;have HX := hid (HX.o.trans he);have HB0 := hid (HB0.o.ext he);have HB1 := hid (HB1.o.ext he);clear he
 by_cases hm : MY = 0
 · subst hm
   have c00 := HB0.o.c0;have c01 := HB0.o.c1;have c10 := HB1.o.c0;have c11 := HB1.o.c1
   go_wp2_with fail
   refine (HCO.o w1 HX.o).mono ?_;rintro e w2 ⟨u, rfl, hu, he⟩;have HF9 := hid (HFW.o u w2 (RE.rp hu.re));clear c00 c01 c10 c11;have HX := hid (HX.o.trans he);clear hu he
   go_wp2_with fail
   refine HF9.o.mono ?_;rintro e w3 ⟨u3, rfl, hu3, he⟩;have HX := hid (HX.o.trans he);have HU := hid hu3;clear hu3 he
   go_wp2
   go_ret2
   exact ⟨_, rfl, by first | (rw [if_pos rfl]; exact HU.o) | exact HU.o, HX.o⟩
 have t1 : (MY != 0) = true := by simpa using hm
 have HM9 := hid hm;clear hm
 go_wp2
 go_ret2
 exact ⟨_, rfl, by first | exact RE.rp (RE.a2F _) | (rw [if_neg HM9.o]; exact RE.rp (RE.a2F _)), HX.o⟩
theorem a3r (d : Nat) (v : Value) (g : G) (gc b : Nat) (L : List Cnt.S) (q : Pl.P2) (m : Mom.M) (w : World) (hv : a00 d w v g.1) (hn : (gPl g).length ≤ 20) (hc : CM w gc b L) (hl : L.length ≤ 256) :
 Calls Tryz.prog 11 #[gAg v g.2, .pointer (some ⟨gc, 0, none⟩), plV q, mV m] w fun e w' => e = .returned (.bool (Fr.a3E g L q m)) ∧ Ext w w' := by
 have HMY := hid (fun W (h : Ext w W) => a3Q d v g q W (hv.ext h))
 have HCO := hid (fun W (h : Ext w W) => a5p d v g gc b L q W (hv.ext h) hn (hc.ext h) (by omega))
 have HCV := hid (fun u W (h : RP W u (Fr.comes g L q (Fr.no))) => Mo.a3f u (Fr.comes g L q (Fr.no)) m W h (by have := Fr.a4x g L q (Fr.no); omega))
 have HCK := hid (fun W => Mo.a0p m W)
 have HDF := hid (show Fr.a3E g L q m = if Fr.may g q = 0 ∧ Mom.ok m = true then !Mom.a1G (Fr.comes g L q (Fr.no)) m else false from rfl)
 obtain ⟨l, out⟩ := g;simp only at hv;generalize Fr.a3E (l, out) L q m = R at *;generalize Fr.comes (l, out) L q (Fr.no) = CL at *;generalize Fr.may (l, out) q = MY at *;generalize Mom.a1G CL m = CV at *;generalize Mom.ok m = om at *;obtain ⟨A, c, rfl⟩ := hv.form;obtain ⟨q1, q2⟩ := q;obtain ⟨m1, m2⟩ := m;have HX := hid (show Ext w (((w.alloc (.cells #[.slice A l.length c, .int .i64 out] 24)).alloc (.cells #[.int .i64 q1, .int .i64 q2] 27)).alloc (.cells #[.int .i64 m1, .int .i64 m2] 29)) from a0s [(#[.slice A l.length c, .int .i64 out], 24), (#[.int .i64 q1, .int .i64 q2], 27), (#[.int .i64 m1, .int .i64 m2], 29)] w);have HB0 := hid (show Blk (((w.alloc (.cells #[.slice A l.length c, .int .i64 out] 24)).alloc (.cells #[.int .i64 q1, .int .i64 q2] 27)).alloc (.cells #[.int .i64 m1, .int .i64 m2] 29)) (w.heap.size) 24 #[.slice A l.length c, .int .i64 out] from a08 [(#[.slice A l.length c, .int .i64 out], 24), (#[.int .i64 q1, .int .i64 q2], 27), (#[.int .i64 m1, .int .i64 m2], 29)] w 0 _ _ rfl);have HB1 := hid (show Blk (((w.alloc (.cells #[.slice A l.length c, .int .i64 out] 24)).alloc (.cells #[.int .i64 q1, .int .i64 q2] 27)).alloc (.cells #[.int .i64 m1, .int .i64 m2] 29)) (w.heap.size + 1) 27 #[.int .i64 q1, .int .i64 q2] from a08 [(#[.slice A l.length c, .int .i64 out], 24), (#[.int .i64 q1, .int .i64 q2], 27), (#[.int .i64 m1, .int .i64 m2], 29)] w 1 _ _ rfl);have HB2 := hid (show Blk (((w.alloc (.cells #[.slice A l.length c, .int .i64 out] 24)).alloc (.cells #[.int .i64 q1, .int .i64 q2] 27)).alloc (.cells #[.int .i64 m1, .int .i64 m2] 29)) (w.heap.size + 1 + 1) 29 #[.int .i64 m1, .int .i64 m2] from a08 [(#[.slice A l.length c, .int .i64 out], 24), (#[.int .i64 q1, .int .i64 q2], 27), (#[.int .i64 m1, .int .i64 m2], 29)] w 2 _ _ rfl);clear hv hn hc hl
 go_enter Tryz.func11, Tryz.ntmps11
 go_upto_region 1 with fail
 generalize w.heap.size = bn at *;generalize ((w.alloc (.cells #[.slice A l.length c, .int .i64 out] 24)).alloc (.cells #[.int .i64 q1, .int .i64 q2] 27)).alloc (.cells #[.int .i64 m1, .int .i64 m2] 29) = w0 at *;have c00 := HB0.o.c0;have c01 := HB0.o.c1;have c10 := HB1.o.c0;have c11 := HB1.o.c1;have c20 := HB2.o.c0;have c21 := HB2.o.c1
 go_wp2_with fail
 refine (HMY.o w0 HX.o).mono ?_;rintro e w1 ⟨rfl, he⟩;clear c00 c01 c10 c11 c20 c21;have HX := hid (HX.o.trans he);have HB0 := hid (HB0.o.ext he);have HB1 := hid (HB1.o.ext he);have HB2 := hid (HB2.o.ext he);clear he
 by_cases hm : MY = 0
 · have t1 : (MY != 0) = false := by simpa using hm
   subst hm;have c00 := HB0.o.c0;have c01 := HB0.o.c1;have c10 := HB1.o.c0;have c11 := HB1.o.c1;have c20 := HB2.o.c0;have c21 := HB2.o.c1
   go_wp2_with fail
   refine (HCK.o w1).mono ?_;rintro e w2 ⟨rfl, he⟩;clear c00 c01 c10 c11 c20 c21;have HX := hid (HX.o.trans he);have HB0 := hid (HB0.o.ext he);have HB1 := hid (HB1.o.ext he);have HB2 := hid (HB2.o.ext he);clear he
   cases om with
   | false =>
    have HR := hid (show R = false from by rw [HDF.o]; simp)
    go_wp2
    go_ret
    exact ⟨by rw [HR.o]; rfl, HX.o⟩
   | true =>
   have HR := hid (show R = !CV from by rw [HDF.o]; simp)
   have c00 := HB0.o.c0;have c01 := HB0.o.c1;have c10 := HB1.o.c0;have c11 := HB1.o.c1;have c20 := HB2.o.c0;have c21 := HB2.o.c1;have HC9 := hid (fun W (h : Ext w2 W) => HCO.o W (HX.o.trans h))
   go_upto_region 3 with fail
   refine yx ?_;refine yl2 c00 c01 ?_;refine ya1 ?_;refine yl2 c10 c11 ?_;refine a06 (fun v w2 => RE w2 v CL) rfl rfl (a05 rfl) rfl (by first | exact (fun _ _ _ h k => RE.ext h k) | exact (fun _ _ _ h k => RE.extD h k)) ?_ ?_
   · intro a w' hR h1 h2 h3 K hK
     have e1 : _ = _ := h1;have e2 : _ = _ := h2;have e3 : _ = _ := h3;go_simp;refine (HC9.o w' hR).mono ?_;rintro e w2 ⟨v9, rfl, ho9, he⟩;exact hK _ _ he ho9.re
   refine yl2 c20 c21 ?_;refine a06 (fun v _ => v = .bool CV) rfl rfl (a05 rfl) rfl (by exact a0e) ?_ ?_
   · intro a w' hR h1 h2 K hK
     obtain ⟨x, ex, fx⟩ : ∃ x, a.tmps.getD 21 undef = x ∧ (fun v w2 => RE w2 v CL) x w' := ⟨_, rfl, h1⟩
     have e2 : _ = _ := h2;go_simp;refine (HCV.o x w' (RE.rp fx)).mono ?_;rintro e w2 ⟨rfl, he⟩;exact hK _ _ he rfl
   refine yl0 ?_;refine yl0 ?_;refine a0f ?_;intro wz hz hS
   iterate 3 (rintro _ rfl)
   iterate 1 (intro _ hz; clear hz)
   iterate 4 (rintro _ rfl)
   dsimp only [a1K];go_simp;have hz : Ext w2 wz := hz
   go_wp2
   go_ret
   exact ⟨by rw [HR.o]; rfl, HX.o.trans hz⟩
 have t1 : (MY != 0) = true := by simpa using hm
 have HR := hid (show R = false from by rw [HDF.o, if_neg (fun e => hm e.1)])
 clear hm
 go_wp2
 go_ret
 exact ⟨by rw [HR.o]; rfl, HX.o⟩
theorem b10 (d : Nat) (v : Value) (g : G) (gc b : Nat) (L : List Cnt.S) (q : Pl.P2) (m : Mom.M) (w : World) (hv : a00 d w v g.1) (hn : (gPl g).length ≤ 20) (hc : CM w gc b L) (hl : L.length ≤ 256) :
 Calls Tryz.prog 16 #[gAg v g.2, .pointer (some ⟨gc, 0, none⟩), plV q, mV m] w fun e w' => e = .returned (.bool (Fr.due g L q m)) ∧ Ext w w' := by
 have HMY := hid (fun W (h : Ext w W) => a3Q d v g q W (hv.ext h))
 have HCO := hid (fun W (h : Ext w W) pq pm (h1 : Blk W pq 27 #[.int .i64 q.1, .int .i64 q.2]) (h2 : Blk W pm 29 #[.int .i64 m.1, .int .i64 m.2]) => a92 d v g gc b L q q m pq pm W (hv.ext h) hn (hc.ext h) (by omega) h1 h2)
 have HCV := hid (fun u W (h : RP W u (Fr.comes g L q (Fr.own q m))) => Mo.a3f u (Fr.comes g L q (Fr.own q m)) m W h (by have := Fr.a4x g L q (Fr.own q m); omega))
 have HCK := hid (fun W => Mo.a0p m W)
 have HDF := hid (show Fr.due g L q m = if Fr.may g q = 0 ∧ Mom.ok m = true then !Mom.a1G (Fr.comes g L q (Fr.own q m)) m else false from rfl)
 obtain ⟨l, out⟩ := g;simp only at hv;generalize Fr.due (l, out) L q m = R at *;generalize Fr.comes (l, out) L q (Fr.own q m) = CL at *;generalize Fr.may (l, out) q = MY at *;generalize Mom.a1G CL m = CV at *;generalize Mom.ok m = om at *;obtain ⟨A, c, rfl⟩ := hv.form;obtain ⟨q1, q2⟩ := q;obtain ⟨m1, m2⟩ := m;have HX := hid (show Ext w (((w.alloc (.cells #[.slice A l.length c, .int .i64 out] 24)).alloc (.cells #[.int .i64 q1, .int .i64 q2] 27)).alloc (.cells #[.int .i64 m1, .int .i64 m2] 29)) from a0s [(#[.slice A l.length c, .int .i64 out], 24), (#[.int .i64 q1, .int .i64 q2], 27), (#[.int .i64 m1, .int .i64 m2], 29)] w);have HB0 := hid (show Blk (((w.alloc (.cells #[.slice A l.length c, .int .i64 out] 24)).alloc (.cells #[.int .i64 q1, .int .i64 q2] 27)).alloc (.cells #[.int .i64 m1, .int .i64 m2] 29)) (w.heap.size) 24 #[.slice A l.length c, .int .i64 out] from a08 [(#[.slice A l.length c, .int .i64 out], 24), (#[.int .i64 q1, .int .i64 q2], 27), (#[.int .i64 m1, .int .i64 m2], 29)] w 0 _ _ rfl);have HB1 := hid (show Blk (((w.alloc (.cells #[.slice A l.length c, .int .i64 out] 24)).alloc (.cells #[.int .i64 q1, .int .i64 q2] 27)).alloc (.cells #[.int .i64 m1, .int .i64 m2] 29)) (w.heap.size + 1) 27 #[.int .i64 q1, .int .i64 q2] from a08 [(#[.slice A l.length c, .int .i64 out], 24), (#[.int .i64 q1, .int .i64 q2], 27), (#[.int .i64 m1, .int .i64 m2], 29)] w 1 _ _ rfl);have HB2 := hid (show Blk (((w.alloc (.cells #[.slice A l.length c, .int .i64 out] 24)).alloc (.cells #[.int .i64 q1, .int .i64 q2] 27)).alloc (.cells #[.int .i64 m1, .int .i64 m2] 29)) (w.heap.size + 1 + 1) 29 #[.int .i64 m1, .int .i64 m2] from a08 [(#[.slice A l.length c, .int .i64 out], 24), (#[.int .i64 q1, .int .i64 q2], 27), (#[.int .i64 m1, .int .i64 m2], 29)] w 2 _ _ rfl);clear hv hn hc hl
 go_enter Tryz.func16, Tryz.ntmps16
 go_upto_region 1 with fail
 generalize w.heap.size = bn at *;generalize ((w.alloc (.cells #[.slice A l.length c, .int .i64 out] 24)).alloc (.cells #[.int .i64 q1, .int .i64 q2] 27)).alloc (.cells #[.int .i64 m1, .int .i64 m2] 29) = w0 at *;have c00 := HB0.o.c0;have c01 := HB0.o.c1;have c10 := HB1.o.c0;have c11 := HB1.o.c1;have c20 := HB2.o.c0;have c21 := HB2.o.c1
 go_wp2_with fail
 refine (HMY.o w0 HX.o).mono ?_;rintro e w1 ⟨rfl, he⟩;clear c00 c01 c10 c11 c20 c21;have HX := hid (HX.o.trans he);have HB0 := hid (HB0.o.ext he);have HB1 := hid (HB1.o.ext he);have HB2 := hid (HB2.o.ext he);clear he
 by_cases hm : MY = 0
 · have t1 : (MY != 0) = false := by simpa using hm
   subst hm;have c00 := HB0.o.c0;have c01 := HB0.o.c1;have c10 := HB1.o.c0;have c11 := HB1.o.c1;have c20 := HB2.o.c0;have c21 := HB2.o.c1
   go_wp2_with fail
   refine (HCK.o w1).mono ?_;rintro e w2 ⟨rfl, he⟩;clear c00 c01 c10 c11 c20 c21;have HX := hid (HX.o.trans he);have HB0 := hid (HB0.o.ext he);have HB1 := hid (HB1.o.ext he);have HB2 := hid (HB2.o.ext he);clear he
   cases om with
   | false =>
    have HR := hid (show R = false from by rw [HDF.o]; simp)
    go_wp2
    go_ret
    exact ⟨by rw [HR.o]; rfl, HX.o⟩
   | true =>
   have HR := hid (show R = !CV from by rw [HDF.o]; simp)
   go_upto_region 4 with fail
   have c00 := HB0.o.c0;have c01 := HB0.o.c1;have c10 := HB1.o.c0;have c11 := HB1.o.c1;have c20 := HB2.o.c0;have c21 := HB2.o.c1;have HC9 := hid (fun W (h : Ext w2 W) => HCO.o W (HX.o.trans h) (bn + 1) (bn + 1 + 1) (HB1.o.ext h) (HB2.o.ext h))
   refine yx ?_;refine yl2 c00 c01 ?_;refine ya1 ?_;refine yl2 c10 c11 ?_;refine ya1 ?_;refine a06 (fun v w2 => RE w2 v CL) rfl rfl (a05 rfl) rfl (by first | exact (fun _ _ _ h k => RE.ext h k) | exact (fun _ _ _ h k => RE.extD h k)) ?_ ?_
   · intro a w' hR h1 h2 h3 h4 K hK
     have e1 : _ = _ := h1;have e2 : _ = _ := h2;have e3 : _ = _ := h3;have e4 : _ = _ := h4;go_simp;refine (HC9.o w' hR).mono ?_;rintro e w2 ⟨v9, rfl, ho9, he⟩;exact hK _ _ he ho9.re
   refine yl2 c20 c21 ?_;refine a06 (fun v _ => v = .bool CV) rfl rfl (a05 rfl) rfl (by exact a0e) ?_ ?_
   · intro a w' hR h1 h2 K hK
     obtain ⟨x, ex, fx⟩ : ∃ x, a.tmps.getD 24 undef = x ∧ (fun v w2 => RE w2 v CL) x w' := ⟨_, rfl, h1⟩
     have e2 : _ = _ := h2;go_simp;refine (HCV.o x w' (RE.rp fx)).mono ?_;rintro e w2 ⟨rfl, he⟩;exact hK _ _ he rfl
   refine yl0 ?_;refine yl0 ?_;refine a0f ?_;intro wz hz hS
   iterate 4 (rintro _ rfl)
   iterate 1 (intro _ hz; clear hz)
   iterate 4 (rintro _ rfl)
   dsimp only [a1K];go_simp;have hz : Ext w2 wz := hz
   go_wp2
   go_ret
   exact ⟨by rw [HR.o]; rfl, HX.o.trans hz⟩
 have t1 : (MY != 0) = true := by simpa using hm
 have HR := hid (show R = false from by rw [HDF.o, if_neg (fun e => hm e.1)])
 clear hm
 go_wp2
 go_ret
 exact ⟨by rw [HR.o]; rfl, HX.o⟩
end Go.Proofs.YtdkejfjcchlnpaaGreat
