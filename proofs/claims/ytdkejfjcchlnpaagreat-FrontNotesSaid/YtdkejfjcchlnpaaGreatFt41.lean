/-
  PlRef2, PlRef3, PlRefW, packed: what the claim needs of them.
-/
import Derived.Test.YtdkejfjcchlnpaaGreatFt40
set_option maxHeartbeats 40000000
open Go.Lib (hid)
set_option linter.unusedSimpArgs false
set_option linter.unusedVariables false
set_option maxRecDepth 100000
namespace Go.Ox.Pl
open Go.Ox.Gr Go.Proofs.YtdkejfjcchlnpaaGreat
def b7l (g : G) (p q : P2) : Option Ar := (a5U g p q).map fun w => ((p, q), w)
theorem b08 (g : G) (p : P2) : a7d g p = (gPl g).filterMap (b7l g p) := rfl
theorem b3y (g : G) (p : P2) : (a7d g p).length <= (gPl g).length := by rw [b08]; exact List.length_filterMap_le _ _
theorem a3r {α β : Type} (f : α -> List β) (n : Nat) : ∀ (l : List α), (∀ a ∈ l, (f a).length <= n) -> (l.flatMap f).length <= l.length * n
 | [], _ => by simp
 | a :: l, h => by
  have h1 := a3r f n l fun b hb => h b (by simp [hb])
  have h2 := h a (by simp)
  rw [List.flatMap_cons, List.length_append, List.length_cons, Nat.succ_mul];omega
def a4N (g : G) : Bool := largeB g.1 || decide (20 < (a0a g.1).length)
theorem b5b {g : G} (h : a4N g = false) : (gPl g).length <= 20 := by
 unfold a4N at h;rw [Bool.or_eq_false_iff, decide_eq_false_iff_not] at h;unfold gPl
 split
 . omega
 simp
end Go.Ox.Pl
namespace Go.Proofs.YtdkejfjcchlnpaaGreat
open Go.RowKit Go.Ox Go.Ox.Gr Mo
attribute [local irreducible] RE OE a00
theorem Blk.b5c {w : World} {p : Nat} {T : TypeId} {a b : Value} (h : Blk w p T #[a, b]) (u v : Value) : Blk ((w.setCell ⟨p, 0, none⟩ u).setCell ⟨p, 1, none⟩ v) p T #[u, v] := by
 have := (h.a0q 0 u).a0q 1 v;simpa using this
theorem a4s (d : Nat) (v : Value) (g : G) (p : Pl.P2) (w : World) (hv : a00 d w v g.1) (hok : gOk g = true) :
 Calls Tryz.prog 21 #[gAg v g.2, plV p] w fun e w' => e = .returned (.bool (gNd g p).isSome) ∧ Ext w w' := by
 have HND := hid (fun W (h : Ext w W) => a8a d v g p W (hv.ext h) hok)
 obtain ⟨l, out⟩ := g;simp only at HND hv;generalize (gNd (l, out) p).getD default = nd at *;generalize (gNd (l, out) p).isSome = sp at *;obtain ⟨A, c, rfl⟩ := hv.form;obtain ⟨p1, p2⟩ := p;obtain ⟨op, ins, kind, fa, a, body⟩ := nd;have HX0 := hid (((Ext.refl w).alloc (gCs (.slice A l.length c) out)).alloc (.cells #[.int .i64 p1, .int .i64 p2] 27));have HB0 := hid ((Blk.new w 24 #[.slice A l.length c, .int .i64 out]).ext ((Ext.refl _).alloc (.cells #[.int .i64 p1, .int .i64 p2] 27)));have HP0 := hid (Blk.new (w.alloc (gCs (.slice A l.length c) out)) 27 #[.int .i64 p1, .int .i64 p2]);clear hv hok
 go_enter Tryz.func21, Tryz.ntmps21
 go_upto_region 1 with fail
 have hq1 : (w.alloc (gCs (.slice A l.length c) out)).heap.size = w.heap.size + 1 := by simp
 rw [hq1] at HP0;clear hq1;generalize w.heap.size = n at *;generalize (w.alloc (gCs (.slice A l.length c) out)).alloc (.cells #[.int .i64 p1, .int .i64 p2] 27) = w0 at *;have c0 := HB0.o.c0;have c1 := HB0.o.c1;have c2 := HP0.o.c0;have c3 := HP0.o.c1
 go_wp2_with fail
 refine (HND.o w0 HX0.o).mono ?_;rintro e w1 ⟨u9, b9, rfl, hu9, hb9, he1⟩;simp only [Nd.op, Nd.kind, Nd.fa, Nd.a, Nd.ins, Nd.body] at hu9 hb9 ⊢;obtain ⟨A9, c9, rfl⟩ := hu9.form;obtain ⟨A8, c8, rfl⟩ := hb9.form;have hx2 := he1.alloc (a0m op kind fa a (.slice A9 ins.length c9) (.slice A8 body.length c8));have HX2 := hid (HX0.o.trans hx2);clear hu9 hb9 he1 hx2 c0 c1 c2 c3 HX0 HB0 HP0
 go_wp2
 go_ret
 exact ⟨rfl, HX2.o⟩
end Go.Proofs.YtdkejfjcchlnpaaGreat
namespace Go.Proofs.YtdkejfjcchlnpaaGreat
open Go.RowKit Go.Ox Go.Ox.Gr Mo
attribute [local irreducible] RE OE a00
theorem b3z (d : Nat) (v : Value) (g : G) (w : World) (hv : a00 d w v g.1) (hok : gOk g = true) (hn : (gPl g).length <= 20) :
 Calls Tryz.prog 86 #[gAg v g.2] w fun e w' => ∃ u, e = .returned u ∧ RE w' u (Pl.a1J g) ∧ Ext w w' := by
 have hpl : gPl g = a0a g.1 := by unfold gPl; rw [if_pos hok]
 have HPL := hid (fun W (h : Ext w W) => a0X d v g.1 g.2 W (hv.ext h) (a2C (l := g.1) (out := g.2) hok).1 (a2C (l := g.1) (out := g.2) hok).2)
 rw [<- hpl] at HPL;have HAC := hid (fun p q W (h : Ext w W) (hp : p ∈ gPl g) => b5a d v g p q W (hv.ext h) hok hp)
 have HAL := hid (show Pl.a1J g = (gPl g).flatMap (Pl.a7d g) from rfl);have HRR := hid (fun p => Pl.b08 g p)
 have HR1 := hid (fun p q => (show Pl.b7l g p q = (Pl.a5U g p q).map fun w => (((p, q), w) : Pl.Ar) from rfl))
 have HRL := hid (fun p => Pl.b3y g p)
 have HN := hid hn;obtain ⟨l, out⟩ := g;simp only at HPL HAC hv;generalize Pl.a1J (l, out) = AL at *;generalize Pl.a7d (l, out) = AR at *;generalize Pl.b7l (l, out) = A1 at *;generalize Pl.a5U (l, out) = AF at *;generalize gPl (l, out) = PL at *;obtain ⟨A, c, rfl⟩ := hv.form;have HX0 := hid ((Ext.refl w).alloc (gCs (.slice A l.length c) out));have HB0 := hid (Blk.new w 24 #[.slice A l.length c, .int .i64 out]);clear hv hok hn hpl
 go_enter Tryz.func86, Tryz.ntmps86
 go_upto_region 1 with fail
 obtain ⟨p, hp⟩ : ∃ p, p = w.heap.size := ⟨_, rfl⟩;rw [<- hp] at HB0 ⊢;clear hp;generalize w.alloc (gCs (.slice A l.length c) out) = w0 at *;have c0 := HB0.o.c0;have c1 := HB0.o.c1
 go_wp2_with fail
 refine (HPL.o w0 HX0.o).mono ?_;rintro e w1 ⟨uv, rfl, huv, he1⟩;obtain ⟨AV, cV, rfl⟩ := huv.re.form;have HX1 := hid (HX0.o.trans he1);have HB1 := hid (HB0.o.ext he1);have HV1 := hid huv.re;have HPP := hid (show p < w1.heap.size from HB1.o.lt);clear huv he1 c0 c1 HPL
 go_wp2
 go_loopw [3, 5] (fun o iv wr => ∃ i : Nat, i <= PL.length ∧ iv = .int .i64 (i : Int) ∧ OE 144 w1.heap.size wr o ((PL.take i).flatMap AR) ∧ Ext w1 wr) (fun _ iv _ => PL.length - (intOf iv).toNat)
 case atStart => exact ⟨0, Nat.zero_le _, rfl, by simpa using OE.a2g _ _ _, Ext.refl _⟩
 case round =>
 obtain ⟨i, hi, rfl, ho, hx⟩ := hrel;rename World => wr
 have HI2 := hid (show i <= 20 from by have := HN.o; omega)
 have HO := hid ho;have HX := hid hx;obtain ⟨AO, cO, hvo⟩ := ho.re.form;clear ho hx
 by_cases hlt : i < PL.length
 . have r1 : (i : Int) < (PL.length : Int) := by omega
   have HLT := hid hlt;obtain ⟨x, hx⟩ : ∃ x, x = PL[i] := ⟨_, rfl⟩;have HFK1 := hid (show (PL.take (i + 1)).flatMap AR = (PL.take i).flatMap AR ++ AR x from by rw [hx]; exact Pl.flatk AR PL hlt)
   have HPI := hid (show PL[i]? = some x from by rw [List.getElem?_eq_getElem hlt]; exact congrArg some hx.symm)
   have HXM := hid (show x ∈ PL from by rw [hx]; exact List.getElem_mem hlt)
   have HARX := hid (HRR.o x)
   have HFL := hid (show ((PL.take i).flatMap AR).length <= 400 from by
    have h1 := Pl.a3r AR 20 (PL.take i) fun a _ => by have := HRL.o a; have := HN.o; omega
    have h2 : (PL.take i).length <= 20 := by rw [List.length_take]; have := HN.o; omega
    omega)
   generalize (PL.take i).flatMap AR = FK at *;subst hvo;clear hlt hx hi
   go_wp2
   go_loopw [3, 6] (fun o kv wq => ∃ k : Nat, k <= PL.length ∧ kv = .int .i64 (k : Int) ∧ OE 144 w1.heap.size wq o (FK ++ (PL.take k).filterMap (A1 x)) ∧ Ext w1 wq) (fun _ kv _ => PL.length - (intOf kv).toNat)
   case atStart => exact ⟨0, Nat.zero_le _, rfl, by simpa using HO.o, HX.o⟩
   case round =>
   obtain ⟨k, hk, rfl, ho, hxq⟩ := hrel;rename World => wq
   have HOQ := hid ho;have HXQ := hid hxq;obtain ⟨AQ, cQ, hvq⟩ := ho.re.form;clear ho;have hk20 : k <= 20 := by have := HN.o; omega
   by_cases hkl : k < PL.length
   . have r2 : (k : Int) < (PL.length : Int) := by omega
     have r20 : 0 <= (k : Int) := by omega
     have r10 : 0 <= (i : Int) := by omega
     have HKL := hid hkl;obtain ⟨hil, hix⟩ := List.getElem?_eq_some_iff.1 HPI.o;obtain ⟨bV, oV, hAV, y0, y1⟩ := rp2 (HV1.o.ext hxq) hil;replace y0 : wq.cell? ⟨bV, oV + i * 2, none⟩ = some (.int .i64 x.1) := by rw [<- hix]; exact y0
     replace y1 : wq.cell? ⟨bV, oV + i * 2 + 1, none⟩ = some (.int .i64 x.2) := by rw [<- hix]; exact y1
     obtain ⟨bV', oV', hAV', z0, z1⟩ := rp2 (HV1.o.ext hxq) hkl;rw [hAV] at hAV';injection hAV' with hAV'
     injection hAV' with hb hoff _
     subst hb hoff hAV;obtain ⟨y, hy⟩ : ∃ y, y = PL[k] := ⟨_, rfl⟩;have HTK := hid (show (PL.take (k + 1)).filterMap (A1 x) = (PL.take k).filterMap (A1 x) ++ (A1 x y).toList from by rw [hy]; exact Pl.fmk (A1 x) PL hkl)
     replace z0 : wq.cell? ⟨bV, oV + k * 2, none⟩ = some (.int .i64 y.1) := by rw [hy]; exact z0
     replace z1 : wq.cell? ⟨bV, oV + k * 2 + 1, none⟩ = some (.int .i64 y.2) := by rw [hy]; exact z1
     have HA1 := hid (HR1.o x y);have HCL := hid (fun W (hW : Ext wq W) => HAC.o x y W ((HX1.o.trans hxq).trans hW) HXM.o)
     generalize AF x y = fxy at *;obtain ⟨FQ, hFQ⟩ : ∃ FQ, FQ = FK ++ (PL.take k).filterMap (A1 x) := ⟨_, rfl⟩;have HFQ := hid hFQ
     have HFQL := hid (show FQ.length <= 800 from by
      rw [hFQ, List.length_append];have h1 := HFL.o;have h2 := List.length_filterMap_le (A1 x) (PL.take k);rw [List.length_take] at h2
      omega)
     rw [<- hFQ] at HOQ hvq;clear hFQ;obtain ⟨x1, x2⟩ := x;obtain ⟨y1', y2'⟩ := y;simp only at y0 y1 z0 z1;subst hvq;have g0 := (HB1.o.ext hxq).c0;have g1 := (HB1.o.ext hxq).c1;have hA := World.block_lt_of_cell? wq _ g0;have hP := World.block_lt_of_cell? wq _ y0;simp only at hA hP;have hA1 : ¬ p = wq.heap.size := by omega
     have hP1 : ¬ bV = wq.heap.size := by omega
     obtain ⟨s1, s2, hss⟩ : ∃ s1 s2, fxy.getD (false, 0) = (s1, s2) := ⟨_, _, rfl⟩;rw [hss] at HCL;obtain ⟨iso, hiso⟩ : ∃ b, fxy.isSome = b := ⟨_, rfl⟩;rw [hiso] at HCL;have HSS := hid hss;have HIS := hid hiso;clear hxq hkl hk hy hix hil hss hiso HAC HRR HRL HR1
     go_upto_region 9 with fail
     go_cut [7, 8] (fun s7 s8 wx => ∃ n7, s7 = .pointer (some ⟨n7, 0, none⟩) ∧ s8 = .bool iso ∧ Blk wx n7 107 #[.bool s1, .int .i64 s2] ∧ Ext wq wx)
     case first =>
      go_region_with (go_at_call 116; refine (HCL.o _ (by repeat (first | exact Ext.refl _ | refine Ext.drew ?_ | refine Ext.alloc ?_ _))).mono ?_; rintro e w5 ⟨rfl, he5⟩; try (have HBN := hid (((Blk.new wq 107 #[.bool false, .int .i64 0]).ext (Ext.refl _).drew).ext he5); have b0 := HBN.o.cell 0; have b1 := HBN.o.cell 1; have f0 := HBN.o.frozen 0; have f1 := HBN.o.frozen 1; have t0 := fun u => (HBN.o.a0q 0 u).frozen 1; have t1 := fun u => (HBN.o.a0q 0 u).cell 1))
      all_goals go_wp2
      all_goals go_meet
      all_goals first
       | exact ⟨_, rfl, rfl, Blk.b5c HBN.o (.bool s1) (.int .i64 s2), (a5G HBN.o (((Ext.refl wq).alloc _).drew.trans he5) (Nat.le_refl _) (.bool s1) (.int .i64 s2)).2.2⟩
       | exact ⟨_, rfl, rfl, Blk.new w5 107 #[.bool s1, .int .i64 s2], ((Ext.refl wq).drew.trans he5).alloc _⟩
     case rest =>
     obtain ⟨n7, rfl, rfl, hb7, hx7⟩ := hcut;rename World => w7
     have HB7 := hid hb7;have HX7 := hid hx7;have d0 := hb7.c0;have d1 := hb7.c1;have y0 := hx7.cell y0;have y1 := hx7.cell y1;have z0 := hx7.cell z0;have z1 := hx7.cell z1;have HO7 := hid (HOQ.o.ext hx7);have HX17 := hid (HXQ.o.trans hx7);clear hb7 hx7 g0 g1 hA hP hA1 hP1 HCL HOQ
     cases iso with
     | false =>
      have HNN := hid (show FK ++ (PL.take (k + 1)).filterMap (A1 (x1, x2)) = FQ from by
       have h0 : fxy = none := by
        cases hf : fxy with
        | none => rfl
        | some z => have := HIS.o; rw [hf] at this; cases this
       rw [HTK.o, HA1.o, h0, HFQ.o]; simp)
      go_wp2
      exact ⟨⟨k + 1, HKL.o, by go_num, by rw [HNN.o]; exact HO7.o, HX17.o⟩, by have := HKL.o; simp [intOf]; omega⟩
     | true =>
     have HNN := hid (show FK ++ (PL.take (k + 1)).filterMap (A1 (x1, x2)) = FQ ++ [((((x1, x2), (y1', y2')), (s1, s2)) : Pl.Ar)] from by
      have h0 : fxy = some (s1, s2) := by
       cases hf : fxy with
       | none => have := HIS.o; rw [hf] at this; cases this
       | some z => have := HSS.o; rw [hf] at this; simpa using this
      rw [HTK.o, HA1.o, h0, HFQ.o]; simp)
     go_wp2
     refine a0c 12 [] [] Ext Ext (fun _ => True) (by kernel_rfl) (by kernel_rfl) (by kernel_rfl) (by kernel_rfl) (by kernel_rfl) (by kernel_rfl) (by kernel_rfl) (by rfl) (by rfl) (by kernel_rfl) (by kernel_rfl) (by kernel_rfl) (fun _ _ _ x y => x.trans y) Ext.refl (fun _ _ x => x) (Ext.refl _).drew (fun _ _ x _ => x) trivial ?_
     refine ya ?_;refine yl2 y0 y1 ?_;refine ya ?_;refine yl2 z0 z1 ?_;refine yl2 d0 d1 ?_;refine a0j rfl rfl (a03 rfl) Ext.refl rfl ?_; apply Exists.intro; refine ⟨?_, ?_⟩
     . intro a w' hR h1 h2 h3
       have e1 : _ = _ := h1;have e2 : _ = _ := h2;have e3 : _ = _ := h3;have q1 := e1; rw [Array.getD_eq_getD_getElem?] at q1;have q2 := e2; rw [Array.getD_eq_getD_getElem?] at q2;have q3 := e3; rw [Array.getD_eq_getD_getElem?] at q3;go_simp;rfl
     refine a09 (fun v w2 => RE w2 v [((((x1, x2), (y1', y2')), (s1, s2)) : Pl.Ar)]) rfl rfl (a03 rfl) rfl (by first | exact (fun _ _ _ h k => RE.ext h k) | exact (fun _ _ _ h k => RE.extD h k)) ?_ ?_
     . intro a w' hR h1 K hK
       have e1 : _ = _ := h1;have q1 : a.tmps[47]?.getD undef = .agg #[.int .i64 x1, .int .i64 x2, .int .i64 y1', .int .i64 y2', .bool s1, .int .i64 s2] := by simpa using e1
       go_simp;exact hK _ _ ((Ext.refl _).alloc _) (RE.lit _ #[.int .i64 x1, .int .i64 x2, .int .i64 y1', .int .i64 y2', .bool s1, .int .i64 s2] 144 1 [((((x1, x2), (y1', y2')), (s1, s2)) : Pl.Ar)] rfl (by omega) rfl)
     refine a01 ?_;intro w5 hx5 hS
     iterate 11 (rintro _ rfl)
     rintro v48 h48;dsimp only [a0y];go_simp;have hx5 : Ext w7 w5 := hx5;have HO5 := hid (HO7.o.ext hx5);have HX5 := hid (HX17.o.trans hx5);have HLIT := hid (show RE w5 v48 [((((x1, x2), (y1', y2')), (s1, s2)) : Pl.Ar)] from h48);clear hx5 hS h48;simp only [a0n, List.drop_succ_cons, List.drop_zero]
     go_wp2_with (refine a07 rfl a5R w5 (.tmp 37) (.tmp 48) rfl w1.heap.size _ _ FQ [((((x1, x2), (y1', y2')), (s1, s2)) : Pl.Ar)] rfl HO5.o rfl HLIT.o (by have := HFQL.o; simp; omega) (by have := HFQL.o; unfold maxLen; simp; omega) HX5.o.size ?_; intro v8 w8 ho8 hg8 hat8)
     exact ⟨⟨k + 1, HKL.o, by go_num, by rw [HNN.o]; exact ho8, HX5.o.grown hat8 fun g hg => (HO5.o.own.lt g hg).1⟩, by have := HKL.o; simp [intOf]; omega⟩
   obtain rfl : k = PL.length := by omega
   have r2 : ¬ (PL.length : Int) < (PL.length : Int) := by omega
   have HNN := hid (show (PL.take (i + 1)).flatMap AR = FK ++ (PL.take PL.length).filterMap (A1 x) from by rw [HFK1.o, HARX.o, List.take_length])
   clear hkl hk hxq
   go_wp2
   exact ⟨⟨i + 1, HLT.o, by go_num, by rw [HNN.o]; exact HOQ.o, HXQ.o⟩, by have := HLT.o; simp [intOf]; omega⟩
 obtain rfl : i = PL.length := by omega
 have r1 : ¬ (PL.length : Int) < (PL.length : Int) := by omega
 rw [List.take_length, <- HAL.o] at HO hvo;subst hvo;have HR := hid HO.o.re;have HG := hid (HX1.o.trans HX.o);clear hi hlt HO
 go_wp2
 go_ret
 exact ⟨_, rfl, HR.o, HG.o⟩
end Go.Proofs.YtdkejfjcchlnpaaGreat
namespace Go.Ox.Pl
open Go.Ox.Gr Go.Proofs.YtdkejfjcchlnpaaGreat
theorem a3t {p : P2} {l : List P2} (h : p ∈ l) : ∃ j, ∃ (hj : j < l.length), a29 p l 0 = (j : Int) ∧ l[j] = p := by
 have key : ∀ (l : List P2) (i : Nat), p ∈ l -> ∃ j, ∃ (hj : j < l.length), a29 p l i = ((i + j : Nat) : Int) ∧ l[j] = p := by
  intro l
  induction l with
  | nil => intro i h; simp at h
  | cons x l ih =>
  intro i h
  by_cases q : x = p
  . exact ⟨0, by simp, by rw [a5o q]; rfl, q⟩
  rcases List.mem_cons.1 h with e | e
  . exact absurd e.symm q
  obtain ⟨j, hj, h1, h2⟩ := ih (i + 1) e;exact ⟨j + 1, by simpa using hj, by rw [a2U q, h1]; congr 1; omega, by simpa using h2⟩
 obtain ⟨j, hj, h1, h2⟩ := key l 0 h;exact ⟨j, hj, by rw [h1, Nat.zero_add], h2⟩
theorem b3A (g : G) : (gPl g).Nodup := (a4p g).imp fun {a b} h e => by subst e; unfold plt at h; omega
def bet (M : Mp) (p v : P2) (w : Wy) : Bool := decide (better M p v w)
end Go.Ox.Pl
namespace Go.Proofs.YtdkejfjcchlnpaaGreat
open Go.RowKit Go.Ox Go.Ox.Gr Mo
theorem b3B {l : List Pl.P2} (h : l.Nodup) {i j : Nat} {hi : i < l.length} {hj : j < l.length} (e : l[i] = l[j]) : i = j := by
 rcases Nat.lt_trichotomy i j with q | q | q
 . exact absurd e (List.pairwise_iff_getElem.1 h i j hi hj q)
 . exact q
 exact absurd e.symm (List.pairwise_iff_getElem.1 h j i hj hi q)
theorem elemBo : Elem Tryz.prog 140 4 (.bool false) 1 1 := Elem.mk' Tryz.underlying140 (by kernel_rfl) rfl (by omega)
theorem elemWy : Elem Tryz.prog 141 107 (.agg #[.bool false, .int .i64 0]) 2 16 := Elem.mk' Tryz.underlying141 (by kernel_rfl) rfl (by omega)
theorem b5K {w : World} {b n k : Nat} {E : TypeId} {xs : List Value} (h : w.ownsRow b E k (.slice (some ⟨b, 0, none⟩) n n) n xs) : ∃ cur, Blk w b E cur ∧ cur.size = n * k ∧ cur.toList = xs := by
 obtain ⟨h1, h2⟩ := h
 rcases h2 with ⟨h2, _⟩ | ⟨b', cap, cur, he, hb, hh, hnc, hcm, hcs, hx⟩
 . cases h2
 injection he with e1 e2 e3
 injection e1 with e1
 injection e1 with e1
 subst e1 e3;refine ⟨cur, hh, hcs, ?_⟩;rw [<- hx, List.take_of_length_le];rw [Array.length_toList, hcs];exact Nat.le_refl _
structure WS2 (w : World) (bh bw : Nat) (PL : List Pl.P2) (M : Pl.Mp) : Prop where
 ha : ∃ cur, Blk w bh 4 cur ∧ cur.size = PL.length ∧ ∀ j (hj : j < PL.length), cur[j]? = some (.bool (M PL[j]).isSome)
 wa : ∃ cur, Blk w bw 107 cur ∧ cur.size = PL.length * 2 ∧ ∀ j (hj : j < PL.length), cur[j * 2]? = some (.bool ((M PL[j]).getD (false, 0)).1) ∧ cur[j * 2 + 1]? = some (.int .i64 ((M PL[j]).getD (false, 0)).2)
theorem WS2.ext {w w' : World} {bh bw : Nat} {PL : List Pl.P2} {M : Pl.Mp} (h : WS2 w bh bw PL M) (he : Ext w w') : WS2 w' bh bw PL M := by
 obtain ⟨⟨c1, h1, h2⟩, c2, h3, h4⟩ := h;exact ⟨⟨c1, h1.ext he, h2⟩, c2, h3.ext he, h4⟩
theorem WS2.lt {w : World} {bh bw : Nat} {PL : List Pl.P2} {M : Pl.Mp} (h : WS2 w bh bw PL M) : bh < w.heap.size ∧ bw < w.heap.size := by
 obtain ⟨⟨c1, h1, h2⟩, c2, h3, h4⟩ := h;exact ⟨h1.lt, h3.lt⟩
theorem WS2.get {w : World} {bh bw : Nat} {PL : List Pl.P2} {M : Pl.Mp} (h : WS2 w bh bw PL M) {j : Nat} (hj : j < PL.length) {x : Pl.P2} (hx : PL[j] = x) :
 w.cell? ⟨bh, j, none⟩ = some (.bool (M x).isSome) ∧ w.cell? ⟨bw, j * 2, none⟩ = some (.bool ((M x).getD (false, 0)).1) ∧ w.cell? ⟨bw, j * 2 + 1, none⟩ = some (.int .i64 ((M x).getD (false, 0)).2) ∧
 w.frozen? ⟨bh, j, none⟩ = false ∧ w.frozen? ⟨bw, j * 2, none⟩ = false ∧ w.frozen? ⟨bw, j * 2 + 1, none⟩ = false := by
 obtain ⟨⟨c1, h1, h2, h3⟩, c2, h4, h5, h6⟩ := h;subst hx;exact ⟨(h1.cell j).trans (h3 j hj), (h4.cell _).trans (h6 j hj).1, (h4.cell _).trans (h6 j hj).2, h1.frozen _, h4.frozen _, h4.frozen _⟩
theorem WS2.put {w : World} {bh bw : Nat} {PL : List Pl.P2} {M : Pl.Mp} (h : WS2 w bh bw PL M) (hne : bh ≠ bw) (hnd : PL.Nodup) {j : Nat} (hj : j < PL.length) {x : Pl.P2} (hx : PL[j] = x) (n : Pl.Wy) :
 WS2 (((w.setCell ⟨bh, j, none⟩ (.bool true)).setCell ⟨bw, j * 2, none⟩ (.bool n.1)).setCell ⟨bw, j * 2 + 1, none⟩ (.int .i64 n.2)) bh bw PL (Pl.upd M x n) ∧
 WS2 (((w.setCell ⟨bw, j * 2, none⟩ (.bool n.1)).setCell ⟨bw, j * 2 + 1, none⟩ (.int .i64 n.2)).setCell ⟨bh, j, none⟩ (.bool true)) bh bw PL (Pl.upd M x n) := by
 obtain ⟨⟨c1, h1, h2, h3⟩, c2, h4, h5, h6⟩ := h
 have hh : ∀ i (hi : i < PL.length), (c1.setIfInBounds j (.bool true))[i]? = some (.bool (Pl.upd M x n PL[i]).isSome) := by
  intro i hi;rw [Array.getElem?_setIfInBounds]
  by_cases e : j = i
  . subst e
    rw [if_pos rfl, if_pos (by omega), hx, Pl.a8f]; rfl
  rw [if_neg e, h3 i hi];have hne : PL[i] ≠ x := fun q => e ((b3B hnd) (hx.trans q.symm))
  rw [Pl.a9U M n hne]
 have hw : ∀ i (hi : i < PL.length), ((c2.setIfInBounds (j * 2) (.bool n.1)).setIfInBounds (j * 2 + 1) (.int .i64 n.2))[i * 2]? = some (.bool ((Pl.upd M x n PL[i]).getD (false, 0)).1) ∧ ((c2.setIfInBounds (j * 2) (.bool n.1)).setIfInBounds (j * 2 + 1) (.int .i64 n.2))[i * 2 + 1]? = some (.int .i64 ((Pl.upd M x n PL[i]).getD (false, 0)).2) := by
  intro i hi;rw [Array.getElem?_setIfInBounds, Array.getElem?_setIfInBounds, Array.getElem?_setIfInBounds, Array.getElem?_setIfInBounds]
  by_cases e : j = i
  . subst e
    rw [if_neg (by omega), if_pos rfl, if_pos (by omega), if_pos rfl, if_pos (by rw [Array.size_setIfInBounds]; omega), hx, Pl.a8f]
    exact ⟨rfl, rfl⟩
  have hne : PL[i] ≠ x := fun q => e ((b3B hnd) (hx.trans q.symm))
  rw [if_neg (by omega), if_neg (by omega), if_neg (by omega), if_neg (by omega), Pl.a9U M n hne]
  exact h6 i hi
 refine ⟨⟨⟨_, ((h1.a0q j _).far (p := ⟨bw, j * 2, none⟩) hne _).far (p := ⟨bw, j * 2 + 1, none⟩) hne _, by rw [Array.size_setIfInBounds]; exact h2, hh⟩, _, ((h4.far (p := ⟨bh, j, none⟩) (Ne.symm hne) _).a0q (j * 2) _).a0q (j * 2 + 1) _, by rw [Array.size_setIfInBounds, Array.size_setIfInBounds]; exact h5, hw⟩,
  ⟨⟨_, ((h1.far (p := ⟨bw, j * 2, none⟩) hne _).far (p := ⟨bw, j * 2 + 1, none⟩) hne _).a0q j _, by rw [Array.size_setIfInBounds]; exact h2, hh⟩, _, ((h4.a0q (j * 2) _).a0q (j * 2 + 1) _).far (p := ⟨bh, j, none⟩) (Ne.symm hne) _, by rw [Array.size_setIfInBounds, Array.size_setIfInBounds]; exact h5, hw⟩⟩
theorem WS2.mark {w : World} {bh bw : Nat} {PL : List Pl.P2} {M M' : Pl.Mp} (h : WS2 w bh bw PL M) (hne : bh ≠ bw) (hnd : PL.Nodup) {j : Nat} (hj : j < PL.length) {x : Pl.P2} (hx : PL[j] = x) {b : Bool} (h1 : (M' x).isSome = b) (h2 : (M' x).getD (false, 0) = (M x).getD (false, 0)) (h3 : ∀ q, q ∈ PL -> q ≠ x -> M' q = M q) :
 WS2 (w.setCell ⟨bh, j, none⟩ (.bool b)) bh bw PL M' := by
 obtain ⟨⟨c1, g1, g2, g3⟩, c2, g4, g5, g6⟩ := h;refine ⟨⟨_, g1.a0q j _, by rw [Array.size_setIfInBounds]; exact g2, fun i hi => ?_⟩, _, g4.far (p := ⟨bh, j, none⟩) (Ne.symm hne) _, g5, fun i hi => ?_⟩
 . rw [Array.getElem?_setIfInBounds]
   by_cases e : j = i
   . subst e
     rw [if_pos rfl, if_pos (by omega), hx, h1]
   rw [if_neg e, g3 i hi, h3 _ (List.getElem_mem hi) (fun q => e ((b3B hnd) (hx.trans q.symm)))]
 by_cases e : j = i
 . subst e
   rw [hx, h2, <- hx];exact g6 j hi
 rw [h3 _ (List.getElem_mem hi) (fun q => e ((b3B hnd) (hx.trans q.symm)))]
 exact g6 i hi
theorem nePlD (a b c d : Int) (w : World) : (binOp .neq 27 (.agg #[.int .i64 a, .int .i64 b]) (.agg #[.int .i64 c, .int .i64 d])).run Tryz.prog w = .ok (.bool (!decide ((a, b) = (c, d)))) w := by
 rw [nePl]
 have h : pB a b c d = decide ((a, b) = (c, d)) := by
  unfold pB
  by_cases h1 : a = c <;> by_cases h2 : b = d <;> simp [h1, h2]
 rw [h]
theorem bet_eq (M : Pl.Mp) (p v : Pl.P2) (n : Pl.Wy) : Pl.bet M p v n = (!decide (v = p) && (!(M v).isSome || (decide (n.2 < ((M v).getD (false, 0)).2) || (decide (n.2 = ((M v).getD (false, 0)).2) && (n.1 && !((M v).getD (false, 0)).1))))) := by
 have e : Pl.bet M p v n = decide (v ≠ p ∧ ((M v).isNone = true ∨ Pl.less n ((M v).getD (false, 0)) = true)) := rfl;rw [e];have e2 : Pl.less n ((M v).getD (false, 0)) = (decide (n.2 < ((M v).getD (false, 0)).2) || (decide (n.2 = ((M v).getD (false, 0)).2) && (n.1 && !((M v).getD (false, 0)).1))) := rfl;rw [<- e2];generalize (M v) = o;generalize Pl.less n (o.getD (false, 0)) = b
 by_cases h1 : v = p <;> cases o <;> cases b <;> simp [h1]
theorem Ext.put {w0 w : World} (h : Ext w0 w) {b o : Nat} {s : Option Nat} (hb : w0.heap.size <= b) (u : Value) : Ext w0 (w.setCell ⟨b, o, s⟩ u) :=
 h.a3Z ((ExtQ.refl (fun k => k = b) w).setCell (p := ⟨b, o, s⟩) rfl u) (fun k hk => by omega)
def mk0 (PL : List Pl.P2) (p : Pl.P2) (i : Nat) : Pl.Mp := fun q => if p ∈ PL.take i then Pl.M0 p q else none
theorem b7m {w : World} {bh bw : Nat} {PL : List Pl.P2} {p : Pl.P2} {c1 c2 : Array Value} (h1 : Blk w bh 4 c1) (s1 : c1.size = PL.length * 1) (e1 : c1.toList = (madeCells (Value.bool false).cells (PL.length * 1)).toList) (h2 : Blk w bw 107 c2) (s2 : c2.size = PL.length * 2) (e2 : c2.toList = (madeCells (Value.agg #[.bool false, .int .i64 0]).cells (PL.length * 2)).toList) :
 WS2 w bh bw PL (mk0 PL p 0) := by
 have e1 : c1 = madeCells (Value.bool false).cells (PL.length * 1) := by rw [<- Array.toList_inj]; exact e1
 have e2 : c2 = madeCells (Value.agg #[.bool false, .int .i64 0]).cells (PL.length * 2) := by rw [<- Array.toList_inj]; exact e2
 have m0 : ∀ q, mk0 PL p 0 q = none := fun q => by unfold mk0; rw [if_neg (by simp)]
 refine ⟨⟨c1, h1, by omega, fun j hj => ?_⟩, c2, h2, s2, fun j hj => ?_⟩
 . rw [m0, e1]
   unfold madeCells;rw [Array.getElem?_map, Array.getElem?_range, if_pos (by omega)]
   simp [Value.cells, Nat.mod_one]
 rw [m0, e2];have a1 : (j * 2 + 1) % 2 = 1 := by omega
 have a0 : (j * 2) % 2 = 0 := by omega
 unfold madeCells;rw [Array.getElem?_map, Array.getElem?_map, Array.getElem?_range, Array.getElem?_range, if_pos (by omega), if_pos (by omega)]
 simp [Value.cells, a1, a0]
theorem mk0_s {PL : List Pl.P2} {p : Pl.P2} (hnd : PL.Nodup) {i : Nat} (hi : i < PL.length) {x : Pl.P2} (hx : PL[i] = x) :
 (mk0 PL p (i + 1) x).isSome = decide (x = p) ∧ (mk0 PL p (i + 1) x).getD (false, 0) = (mk0 PL p i x).getD (false, 0) ∧ ∀ q, q ∈ PL -> q ≠ x -> mk0 PL p (i + 1) q = mk0 PL p i q := by
 have hxt : x ∉ PL.take i := by
  intro hm;obtain ⟨k, hk, e⟩ := List.getElem_of_mem hm;rw [List.length_take] at hk;rw [List.getElem_take] at e;have := (b3B hnd) (e.trans hx.symm);omega
 have ht : ∀ y, y ∈ PL.take (i + 1) ↔ y ∈ PL.take i ∨ y = x := fun y => by
  rw [List.take_succ_eq_append_getElem hi, List.mem_append, List.mem_singleton, hx]
 unfold mk0;refine ⟨?_, ?_, fun q hq hne => ?_⟩
 . by_cases e : x = p
   . subst e
     rw [if_pos ((ht x).2 (.inr rfl))]; simp [Pl.M0]
   rw [decide_eq_false e]
   split
   . unfold Pl.M0; rw [if_neg e]; rfl
   rfl
 . by_cases e : x = p
   . subst e
     rw [if_pos ((ht x).2 (.inr rfl)), if_neg hxt]; simp [Pl.M0]
   split <;> split <;> simp [Pl.M0, e]
 by_cases e : p = x
 . subst e
   rw [if_pos ((ht p).2 (.inr rfl)), if_neg hxt];unfold Pl.M0; rw [if_neg hne]
 by_cases k : p ∈ PL.take i
 . rw [if_pos ((ht p).2 (.inl k)), if_pos k]
 rw [if_neg (fun h => by rcases (ht p).1 h with h | h; exact k h; exact e h), if_neg k]
theorem b7n {PL : List Pl.P2} {p : Pl.P2} (hp : p ∈ PL) : mk0 PL p PL.length = Pl.M0 p := by
 funext q
 unfold mk0;rw [List.take_length, if_pos hp]
end Go.Proofs.YtdkejfjcchlnpaaGreat
