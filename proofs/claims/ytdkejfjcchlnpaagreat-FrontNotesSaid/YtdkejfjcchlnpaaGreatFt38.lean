/-
  CntR3, packed: what the claim needs of them.
-/
import Derived.Test.YtdkejfjcchlnpaaGreatFt37
set_option maxHeartbeats 40000000
open Go.Lib (hid)
set_option linter.unusedSimpArgs false
set_option linter.unusedVariables false
set_option maxRecDepth 100000
namespace Go.Proofs.YtdkejfjcchlnpaaGreat.Ct
open Go.RowKit Go.Ox Go.Shelf Mo
attribute [local irreducible] OP RP
theorem a8o {w w' : World} {b T : Nat} {cs : Array Value} {row : Option Nat} (h : Blk w b T cs) (hg : w.grownBy w' row) (hne : ∀ k, row = some k -> k ≠ b) : Blk w' b T cs := by
 refine (hg.block b h.lt fun q => ?_).trans h
 exact hne b q.symm rfl
theorem b07 {w : World} {g n c base : Nat} {A : Option Addr} {v : Value} {M : List Cnt.S} (hb : Blk w g 61 #[.slice A n c]) (ho : OE 38 base w v M) (hgb : g < base) (hg : Cnt.Good M) :
 XM (w.setCell ⟨g, 0, none⟩ v) g M ∧ ExtG g w (w.setCell ⟨g, 0, none⟩ v) := by
 have hx : ExtG g w (w.setCell ⟨g, 0, none⟩ v) := ExtG.store hb (i := 0) (by intro k z; simp) v
 have ho2 := ho.grown hx.grown fun k hk q => by
  injection q with q
  subst q;have := (ho.own.lt _ hk).1;omega
 exact ⟨⟨⟨v, hb.a0q 0 v, ho2.re⟩, hg⟩, hx⟩
theorem b1d (s : Cnt.S) (L : List Cnt.S) (j : Nat) (h : j < L.length) (st : List Cnt.S × Bool) : (L.take (j + 1)).foldl (Cnt.a0Q s) st = Cnt.a0Q s ((L.take j).foldl (Cnt.a0Q s) st) L[j] := by
 rw [List.take_succ_eq_append_getElem h, List.foldl_append]; rfl
theorem a8p (s : Cnt.S) : ∀ (l : List Cnt.S) (st : List Cnt.S × Bool), (l.foldl (Cnt.a0Q s) st).1.length <= st.1.length + 2 * l.length
 | [], st => by simp
 | x :: l, st => by
  have := a8p s l (Cnt.a0Q s st x)
  have h2 : (Cnt.a0Q s st x).1.length <= st.1.length + 2 := by
   unfold Cnt.a0Q
   split
   . omega
   . split <;> simp
  rw [List.foldl_cons, List.length_cons]; omega
theorem b52 {s : Cnt.S} {st : List Cnt.S × Bool} {x : Cnt.S} (h : x.1 = s.1) : Cnt.a0Q s st x = st := by unfold Cnt.a0Q; rw [if_pos h]
theorem a6A {s : Cnt.S} {o : List Cnt.S} {x : Cnt.S} (h : x.1 ≠ s.1) (hb : Cnt.klt s.1 x.1) : Cnt.a0Q s (o, false) x = (o ++ [s] ++ [x], true) := by unfold Cnt.a0Q; rw [if_neg h, if_pos ⟨rfl, hb⟩]
theorem a1C {s : Cnt.S} {o : List Cnt.S} {p : Bool} {x : Cnt.S} (h : x.1 ≠ s.1) (hb : p = true ∨ ¬ Cnt.klt s.1 x.1) : Cnt.a0Q s (o, p) x = (o ++ [x], p) := by
 unfold Cnt.a0Q;rw [if_neg h, if_neg];rintro ⟨h1, h2⟩
 rcases hb with hb | hb
 . rw [hb] at h1; cases h1
 exact hb h2
theorem b53 (w : World) (g : Nat) (L : List Cnt.S) (h : XM w g L) (k : Cnt.K) (n : Int) (hk : Mom.ok k.2 = false) :
 Calls Tryz.prog 32 #[.pointer (some ⟨g, 0, none⟩), pV2 k.1, pV2 k.2, .int .i64 n] w fun e w' => e = .returned (.int .i64 40) ∧ Ext w w' := by
 obtain ⟨⟨k1, k2⟩, k3, k4⟩ := k;dsimp only at *;obtain ⟨c1, c2, c3, c4⟩ := b5I w (.int .i64 k1) (.int .i64 k2) (.int .i64 k3) (.int .i64 k4);have HX := hid (show Ext w ((w.alloc (.cells #[.int .i64 k1, .int .i64 k2] 27)).alloc (.cells #[.int .i64 k3, .int .i64 k4] 29)) from ((Ext.refl _).alloc _).alloc _);have HK := hid (fun w => a0w (k3, k4) w)
 rw [hk] at HK;clear h hk
 go_enter Tryz.func32, Tryz.ntmps32
 go_wp2_with fail
 refine (HK.o _).mono ?_;rintro e w2 ⟨rfl, he2⟩
 go_wp2
 go_ret
 exact ⟨rfl, HX.o.trans he2⟩
theorem b54 (w : World) (g : Nat) (L : List Cnt.S) (h : XM w g L) (hl : L.length <= 100000) (k : Cnt.K) (n : Int) (hk : Mom.ok k.2 = true) (hr : n < - Cnt.was L k ∨ 1073741824 - Cnt.was L k < n) :
 Calls Tryz.prog 32 #[.pointer (some ⟨g, 0, none⟩), pV2 k.1, pV2 k.2, .int .i64 n] w fun e w' => e = .returned (.int .i64 210) ∧ Ext w w' := by
 obtain ⟨⟨k1, k2⟩, k3, k4⟩ := k;dsimp only at *;obtain ⟨c1, c2, c3, c4⟩ := b5I w (.int .i64 k1) (.int .i64 k2) (.int .i64 k3) (.int .i64 k4);have HX := hid (show Ext w ((w.alloc (.cells #[.int .i64 k1, .int .i64 k2] 27)).alloc (.cells #[.int .i64 k3, .int .i64 k4] 29)) from ((Ext.refl _).alloc _).alloc _);have HK := hid (fun w => a0w (k3, k4) w)
 have HM := hid (h.ext HX.o);have HF := hid (fun (w : World) (h : XM w g L) => b3r w g L h (by omega) ((k1, k2), k3, k4))
 have hgl := h.row.elim fun _ q => q.1.lt
 obtain ⟨z0, z1⟩ := Cnt.a2o h.good ((k1, k2), k3, k4);rw [hk] at HK;clear hk;generalize hz : Cnt.was L ((k1, k2), k3, k4) = z at *;have hgd := h.good;clear h
 go_enter Tryz.func32, Tryz.ntmps32
 go_wp2_with fail
 refine (HK.o _).mono ?_;rintro e w1 ⟨rfl, he1⟩;have c1 := he1.cell c1;have c2 := he1.cell c2;have c3 := he1.cell c3;have c4 := he1.cell c4;have HX1 := hid (HX.o.trans he1);have HM1 := hid (HM.o.ext he1);clear he1 HX HM
 go_wp2_with fail
 refine (HF.o _ HM1.o).mono ?_;rintro e w2 ⟨rfl, he2⟩;have c1 := he2.cell c1;have c2 := he2.cell c2;have c3 := he2.cell c3;have c4 := he2.cell c4;have HX2 := hid (HX1.o.trans he2);have HM2 := hid (HM1.o.ext he2);clear he2 HX1 HM1
 rcases hr with hr | hr
 . go_wp2
   go_ret
   exact ⟨rfl, HX2.o⟩
 have hr2 : ¬ n < -z := by omega
 go_wp2
 go_ret
 exact ⟨rfl, HX2.o⟩
theorem b73 (w : World) (g : Nat) (L : List Cnt.S) (h : XM w g L) (hl : L.length <= 100000) (k : Cnt.K) (n : Int) (hk : Mom.ok k.2 = true) (hr : - Cnt.was L k <= n) (hr2 : n <= 1073741824 - Cnt.was L k) :
 Calls Tryz.prog 32 #[.pointer (some ⟨g, 0, none⟩), pV2 k.1, pV2 k.2, .int .i64 n] w fun e w' => e = .returned (.int .i64 0) ∧ XM w' g (Cnt.b14 L (k, Cnt.was L k + n)) ∧ ExtG g w w' := by
 obtain ⟨⟨k1, k2⟩, k3, k4⟩ := k;dsimp only at *;obtain ⟨c1, c2, c3, c4⟩ := b5I w (.int .i64 k1) (.int .i64 k2) (.int .i64 k3) (.int .i64 k4);have HX := hid (show Ext w ((w.alloc (.cells #[.int .i64 k1, .int .i64 k2] 27)).alloc (.cells #[.int .i64 k3, .int .i64 k4] 29)) from ((Ext.refl _).alloc _).alloc _);have HK := hid (fun w => a0w (k3, k4) w)
 have HM := hid (h.ext HX.o);have HF := hid (fun (w : World) (h : XM w g L) => b3r w g L h (by omega) ((k1, k2), k3, k4))
 have hgl := h.row.elim fun _ q => q.1.lt
 obtain ⟨z0, z1⟩ := Cnt.a2o h.good ((k1, k2), k3, k4);rw [hk] at HK;clear hk;generalize hz : Cnt.was L ((k1, k2), k3, k4) = z at *;have hgd := h.good;clear h
 go_enter Tryz.func32, Tryz.ntmps32
 go_wp2_with fail
 refine (HK.o _).mono ?_;rintro e w1 ⟨rfl, he1⟩;have c1 := he1.cell c1;have c2 := he1.cell c2;have c3 := he1.cell c3;have c4 := he1.cell c4;have HX1 := hid (HX.o.trans he1);have HM1 := hid (HM.o.ext he1);clear he1 HX HM
 go_wp2_with fail
 refine (HF.o _ HM1.o).mono ?_;rintro e w2 ⟨rfl, he2⟩;have c1 := he2.cell c1;have c2 := he2.cell c2;have c3 := he2.cell c3;have c4 := he2.cell c4;have HX2 := hid (HX1.o.trans he2);have HM2 := hid (HM1.o.ext he2);clear he2 HX1 HM1;have g1 : ¬ n < -z := by omega
 have g2 : ¬ 1073741824 - z < n := by omega
 have hm0 : 0 <= z + n := by omega
 have hm1 : z + n <= 1073741824 := by omega
 go_upto_region 7 with fail
 generalize hm : z + n = m at hm0 hm1 ⊢;have HS3 := hid (Blk.new w2 38 #[.int .i64 k1, .int .i64 k2, .int .i64 k3, .int .i64 k4, .int .i64 m]);have hx3 : Ext w2 (w2.alloc (.cells #[.int .i64 k1, .int .i64 k2, .int .i64 k3, .int .i64 k4, .int .i64 m] 38)) := (Ext.refl _).alloc _;have c1 := hx3.cell c1;have c2 := hx3.cell c2;have c3 := hx3.cell c3;have c4 := hx3.cell c4;have HX3 := hid (HX2.o.trans hx3);have HM3 := hid (HM2.o.ext hx3);clear hx3 HX2 HM2;generalize w2.alloc (.cells #[.int .i64 k1, .int .i64 k2, .int .i64 k3, .int .i64 k4, .int .i64 m] 38) = w3 at *;generalize w2.heap.size = ns at *;obtain ⟨v, hb, hr⟩ := HM3.o.row;obtain ⟨A, c, rfl⟩ := hr.form;have HBG := hid hb;have HR := hid hr;have HBX := hid (And.intro c1 (And.intro c2 (And.intro c3 c4)));have HGL := hid (show g < w3.heap.size from hb.lt);have HSP := hid (fun st (h : L.foldl (Cnt.a0Q (((k1, k2), k3, k4), m)) ([], m == 0) = st) => show Cnt.b14 L (((k1, k2), k3, k4), m) = if st.2 = true then st.1 else st.1 ++ [(((k1, k2), k3, k4), m)] by unfold Cnt.b14; rw [h])
 have HGP := hid (Cnt.a8j hgd (((k1, k2), k3, k4), m) hm0 hm1);have HHM := hid hm;have hE := b5o;have hE2 := eqM;have hG := b33;have hG2 := a9X;have HWG := hid hgl;clear hb hr c1 c2 c3 c4 HM3 hm hgl;have s4 := HS3.o.c4
 go_wp2
 go_loopw [11, 12, 13] (fun o p i wr => ∃ j : Nat, j <= L.length ∧ i = .int .i64 j ∧ p = .bool ((L.take j).foldl (Cnt.a0Q (((k1, k2), k3, k4), m)) ([], m == 0)).2 ∧ OE 38 w3.heap.size wr o ((L.take j).foldl (Cnt.a0Q (((k1, k2), k3, k4), m)) ([], m == 0)).1 ∧ Ext w3 wr) (fun _ _ i _ => L.length - (intOf i).toNat)
 case atStart => exact ⟨0, Nat.zero_le _, rfl, rfl, OE.a2g _ _ _, Ext.refl _⟩
 case round =>
 obtain ⟨j, hj, rfl, rfl, ho, hext⟩ := hrel;rename World => wA
 have HO := hid ho;have HE := hid hext;have cb := (HBG.o.ext hext).c0;have s0 := (HS3.o.ext hext).c0;have s1 := (HS3.o.ext hext).c1;have s2 := (HS3.o.ext hext).c2;have s3 := (HS3.o.ext hext).c3;have s4 := (HS3.o.ext hext).c4;obtain ⟨p0, p1, m0, m1⟩ := HBX.o;have p0 := hext.cell p0;have p1 := hext.cell p1;have m0 := hext.cell m0;have m1 := hext.cell m1;have hlen := a8p (((k1, k2), k3, k4), m) (L.take j) ([], m == 0);rw [List.length_nil, Nat.zero_add, List.length_take, Nat.min_eq_left hj] at hlen
 by_cases hlt : j < L.length
 . have g3 : (j : Int) < (L.length : Int) := by omega
   have g0 : 0 <= (j : Int) := by omega
   obtain ⟨bA, oA, rfl, e0, e1, e2, e3, e4⟩ := re5 (HR.o.ext hext) hlt;have HST := hid (b1d (((k1, k2), k3, k4), m) L j hlt ([], m == 0));have HBF := hid (a9e (((k1, k2), k3, k4), m) L[j]);generalize (L.take j).foldl (Cnt.a0Q (((k1, k2), k3, k4), m)) ([], m == 0) = st at *;obtain ⟨S, P⟩ := st;generalize L[j] = x at *;obtain ⟨⟨⟨x1, x2⟩, x3, x4⟩, x5⟩ := x;dsimp only at *;obtain ⟨AS, cS, rfl⟩ := ho.re.form;have HBN := hid (Blk.new wA 38 #[.int .i64 x1, .int .i64 x2, .int .i64 x3, .int .i64 x4, .int .i64 x5]);have hxn : Ext wA (wA.alloc (.cells #[.int .i64 x1, .int .i64 x2, .int .i64 x3, .int .i64 x4, .int .i64 x5] 38)) := (Ext.refl _).alloc _;have HXN := hid (HE.o.trans hxn);have HON := hid (HO.o.ext hxn);have HLO := hid (fun k (hk : (Value.slice AS S.length cS).ownBlock = some k) => Nat.ne_of_lt (ho.own.lt k hk).2)
   have p0 := hxn.cell p0;have p1 := hxn.cell p1;have m0 := hxn.cell m0;have m1 := hxn.cell m1;have s0 := hxn.cell s0;have s1 := hxn.cell s1;have s2 := hxn.cell s2;have s3 := hxn.cell s3;have s4 := hxn.cell s4;clear ho hext hxn
   by_cases hp : (x1, x2) = (k1, k2)
   . by_cases hmm : (x3, x4) = (k3, k4)
     . have d1 := a2b hp
       have d2 := a2b hmm;have HEQ := hid (b52 (s := (((k1, k2), k3, k4), m)) (st := (S, P)) (x := (((x1, x2), x3, x4), x5)) (by rw [hp, hmm]))
       clear hp hmm HBF
       go_wp2
       exact ⟨⟨j + 1, by omega, by go_num, by rw [HST.o, HEQ.o], by rw [HST.o, HEQ.o]; exact HON.o, HXN.o⟩, by simp [intOf]; omega⟩
     have d1 := a2b hp;have d2 := a2D hmm;have HNK := hid (show ((x1, x2), x3, x4) ≠ ((k1, k2), k3, k4) by intro q; injection q with _ q; exact hmm q)
     clear hp hmm
     cases P with
     | true =>
      go_upto_region 17 with fail
      generalize hwc : wA.alloc (.cells #[.int .i64 x1, .int .i64 x2, .int .i64 x3, .int .i64 x4, .int .i64 x5] 38) = wc at *;have HXc := hid HXN.o;have HOc := hid HON.o;have HBc := hid HBN.o;have HLS := hid (show S.length <= 1000000 by omega)
      generalize hnx : wA.heap.size = nx at *;clear hwc hnx;have y0 := HBc.o.c0;have y1 := HBc.o.c1;have y2 := HBc.o.c2;have y3 := HBc.o.c3;have y4 := HBc.o.c4;have hxl : Ext wc (wc.alloc (.cells #[.int .i64 x1, .int .i64 x2, .int .i64 x3, .int .i64 x4, .int .i64 x5] 38)) := (Ext.refl _).alloc _;have HLT := hid (RE.lit wc #[.int .i64 x1, .int .i64 x2, .int .i64 x3, .int .i64 x4, .int .i64 x5] 38 1 [(((x1, x2), x3, x4), x5)] rfl (by omega) rfl)
      have HOl := hid (HOc.o.ext hxl);have HXl := hid (HXc.o.trans hxl);clear hxl
      go_wp2_with (at_builtin; refine a07 rfl a5V _ _ _ rfl w3.heap.size _ _ S [(((x1, x2), x3, x4), x5)] rfl HOl.o rfl HLT.o (by have := HLS.o; simp only [List.length_singleton]; omega) (by have := HLS.o; simp only [List.length_singleton]; unfold maxLen; omega) HXl.o.size ?_; intro v8 w8 ho8 hb8 hg8)
      refine ⟨⟨j + 1, by omega, by go_num, by rw [HST.o, a1C HNK.o (.inl rfl)], by rw [HST.o, a1C HNK.o (.inl rfl)]; exact ho8, Below.trans HXl.o hb8⟩, by simp [intOf]; omega⟩
     | false =>
     go_upto_region 14 with fail
     generalize hwn : wA.alloc (.cells #[.int .i64 x1, .int .i64 x2, .int .i64 x3, .int .i64 x4, .int .i64 x5] 38) = wn at *;have z0 := HBN.o.c0;have z1 := HBN.o.c1;have z2 := HBN.o.c2;have z3 := HBN.o.c3;have z4 := HBN.o.c4;generalize hnx : wA.heap.size = nx at *;clear hwn hnx
     go_wp2_with fail
     refine (HBF.o _).mono ?_;rintro e wc ⟨rfl, hec⟩;have HXc := hid (HXN.o.trans hec);have HOc := hid (HON.o.ext hec);have HBc := hid (HBN.o.ext hec);have HLS := hid (show S.length <= 1000000 by omega)
     have s0 := hec.cell s0;have s1 := hec.cell s1;have s2 := hec.cell s2;have s3 := hec.cell s3;have s4 := hec.cell s4;clear hec z0 z1 z2 z3 z4
     by_cases hbq : Cnt.klt ((k1, k2), k3, k4) ((x1, x2), x3, x4)
     . rw [decide_eq_true hbq]
       have HBQ := hid hbq;clear hbq;have hxs : Ext wc (wc.alloc (.cells #[.int .i64 k1, .int .i64 k2, .int .i64 k3, .int .i64 k4, .int .i64 m] 38)) := (Ext.refl _).alloc _;have HLS2 := hid (RE.lit wc #[.int .i64 k1, .int .i64 k2, .int .i64 k3, .int .i64 k4, .int .i64 m] 38 1 [(((k1, k2), k3, k4), m)] rfl (by omega) rfl)
       have HOs := hid (HOc.o.ext hxs);have HXs := hid (HXc.o.trans hxs);have HBs := hid (HBc.o.ext hxs);clear hxs
       go_upto_region 16 with (at_builtin; refine a07 rfl a5V _ _ _ rfl w3.heap.size _ _ S [(((k1, k2), k3, k4), m)] rfl HOs.o rfl HLS2.o (by have := HLS.o; simp only [List.length_singleton]; omega) (by have := HLS.o; simp only [List.length_singleton]; unfold maxLen; omega) HXs.o.size ?_; intro v7 w7 ho7 hb7 hg7)
       have HB7 := hid (a8o HBs.o hg7 HLO.o);have HX7 := hid (show Ext w3 w7 from Below.trans HXs.o hb7);have HO7 := hid ho7;obtain ⟨A7, c7, rfl⟩ := ho7.re.form;have hl7 : (S ++ [(((k1, k2), k3, k4), m)]).length <= 1000001 := by have := HLS.o; rw [List.length_append, List.length_singleton]; omega
       clear hb7 hg7 ho7 HXc HOc HBc HOs HXs HBs HLS HLS2 s0 s1 s2 s3 s4;have HLE := hid (a6A (s := (((k1, k2), k3, k4), m)) (o := S) (x := (((x1, x2), x3, x4), x5)) HNK.o HBQ.o);generalize S ++ [(((k1, k2), k3, k4), m)] = S7 at *;have HXc := hid HX7.o;have HOc := hid HO7.o;have HBc := hid HB7.o;have HLS := hid (show S7.length <= 1000001 from hl7);clear HX7 HO7 HB7 hl7;generalize w7 = wc at *;have y0 := HBc.o.c0;have y1 := HBc.o.c1;have y2 := HBc.o.c2;have y3 := HBc.o.c3;have y4 := HBc.o.c4;have hxl : Ext wc (wc.alloc (.cells #[.int .i64 x1, .int .i64 x2, .int .i64 x3, .int .i64 x4, .int .i64 x5] 38)) := (Ext.refl _).alloc _;have HLT := hid (RE.lit wc #[.int .i64 x1, .int .i64 x2, .int .i64 x3, .int .i64 x4, .int .i64 x5] 38 1 [(((x1, x2), x3, x4), x5)] rfl (by omega) rfl)
       have HOl := hid (HOc.o.ext hxl);have HXl := hid (HXc.o.trans hxl);clear hxl
       go_wp2_with (at_builtin; refine a07 rfl a5V _ _ _ rfl w3.heap.size _ _ S7 [(((x1, x2), x3, x4), x5)] rfl HOl.o rfl HLT.o (by have := HLS.o; simp only [List.length_singleton]; omega) (by have := HLS.o; simp only [List.length_singleton]; unfold maxLen; omega) HXl.o.size ?_; intro v8 w8 ho8 hb8 hg8)
       refine ⟨⟨j + 1, by omega, by go_num, by rw [HST.o, HLE.o], by rw [HST.o, HLE.o]; exact ho8, Below.trans HXl.o hb8⟩, by simp [intOf]; omega⟩
     rw [decide_eq_false hbq];have HBQ := hid hbq;clear hbq
     go_upto_region 17 with fail
     have y0 := HBc.o.c0;have y1 := HBc.o.c1;have y2 := HBc.o.c2;have y3 := HBc.o.c3;have y4 := HBc.o.c4;have hxl : Ext wc (wc.alloc (.cells #[.int .i64 x1, .int .i64 x2, .int .i64 x3, .int .i64 x4, .int .i64 x5] 38)) := (Ext.refl _).alloc _;have HLT := hid (RE.lit wc #[.int .i64 x1, .int .i64 x2, .int .i64 x3, .int .i64 x4, .int .i64 x5] 38 1 [(((x1, x2), x3, x4), x5)] rfl (by omega) rfl)
     have HOl := hid (HOc.o.ext hxl);have HXl := hid (HXc.o.trans hxl);clear hxl
     go_wp2_with (at_builtin; refine a07 rfl a5V _ _ _ rfl w3.heap.size _ _ S [(((x1, x2), x3, x4), x5)] rfl HOl.o rfl HLT.o (by have := HLS.o; simp only [List.length_singleton]; omega) (by have := HLS.o; simp only [List.length_singleton]; unfold maxLen; omega) HXl.o.size ?_; intro v8 w8 ho8 hb8 hg8)
     refine ⟨⟨j + 1, by omega, by go_num, by rw [HST.o, a1C HNK.o (.inr HBQ.o)], by rw [HST.o, a1C HNK.o (.inr HBQ.o)]; exact ho8, Below.trans HXl.o hb8⟩, by simp [intOf]; omega⟩
   have d1 := a2D hp;have HNK := hid (show ((x1, x2), x3, x4) ≠ ((k1, k2), k3, k4) by intro q; injection q with q _; exact hp q)
   clear hp
   cases P with
   | true =>
    go_upto_region 17 with fail
    generalize hwc : wA.alloc (.cells #[.int .i64 x1, .int .i64 x2, .int .i64 x3, .int .i64 x4, .int .i64 x5] 38) = wc at *;have HXc := hid HXN.o;have HOc := hid HON.o;have HBc := hid HBN.o;have HLS := hid (show S.length <= 1000000 by omega)
    generalize hnx : wA.heap.size = nx at *;clear hwc hnx;have y0 := HBc.o.c0;have y1 := HBc.o.c1;have y2 := HBc.o.c2;have y3 := HBc.o.c3;have y4 := HBc.o.c4;have hxl : Ext wc (wc.alloc (.cells #[.int .i64 x1, .int .i64 x2, .int .i64 x3, .int .i64 x4, .int .i64 x5] 38)) := (Ext.refl _).alloc _;have HLT := hid (RE.lit wc #[.int .i64 x1, .int .i64 x2, .int .i64 x3, .int .i64 x4, .int .i64 x5] 38 1 [(((x1, x2), x3, x4), x5)] rfl (by omega) rfl)
    have HOl := hid (HOc.o.ext hxl);have HXl := hid (HXc.o.trans hxl);clear hxl
    go_wp2_with (at_builtin; refine a07 rfl a5V _ _ _ rfl w3.heap.size _ _ S [(((x1, x2), x3, x4), x5)] rfl HOl.o rfl HLT.o (by have := HLS.o; simp only [List.length_singleton]; omega) (by have := HLS.o; simp only [List.length_singleton]; unfold maxLen; omega) HXl.o.size ?_; intro v8 w8 ho8 hb8 hg8)
    refine ⟨⟨j + 1, by omega, by go_num, by rw [HST.o, a1C HNK.o (.inl rfl)], by rw [HST.o, a1C HNK.o (.inl rfl)]; exact ho8, Below.trans HXl.o hb8⟩, by simp [intOf]; omega⟩
   | false =>
   go_upto_region 14 with fail
   generalize hwn : wA.alloc (.cells #[.int .i64 x1, .int .i64 x2, .int .i64 x3, .int .i64 x4, .int .i64 x5] 38) = wn at *;have z0 := HBN.o.c0;have z1 := HBN.o.c1;have z2 := HBN.o.c2;have z3 := HBN.o.c3;have z4 := HBN.o.c4;generalize hnx : wA.heap.size = nx at *;clear hwn hnx
   go_wp2_with fail
   refine (HBF.o _).mono ?_;rintro e wc ⟨rfl, hec⟩;have HXc := hid (HXN.o.trans hec);have HOc := hid (HON.o.ext hec);have HBc := hid (HBN.o.ext hec);have HLS := hid (show S.length <= 1000000 by omega)
   have s0 := hec.cell s0;have s1 := hec.cell s1;have s2 := hec.cell s2;have s3 := hec.cell s3;have s4 := hec.cell s4;clear hec z0 z1 z2 z3 z4
   by_cases hbq : Cnt.klt ((k1, k2), k3, k4) ((x1, x2), x3, x4)
   . rw [decide_eq_true hbq]
     have HBQ := hid hbq;clear hbq;have hxs : Ext wc (wc.alloc (.cells #[.int .i64 k1, .int .i64 k2, .int .i64 k3, .int .i64 k4, .int .i64 m] 38)) := (Ext.refl _).alloc _;have HLS2 := hid (RE.lit wc #[.int .i64 k1, .int .i64 k2, .int .i64 k3, .int .i64 k4, .int .i64 m] 38 1 [(((k1, k2), k3, k4), m)] rfl (by omega) rfl)
     have HOs := hid (HOc.o.ext hxs);have HXs := hid (HXc.o.trans hxs);have HBs := hid (HBc.o.ext hxs);clear hxs
     go_upto_region 16 with (at_builtin; refine a07 rfl a5V _ _ _ rfl w3.heap.size _ _ S [(((k1, k2), k3, k4), m)] rfl HOs.o rfl HLS2.o (by have := HLS.o; simp only [List.length_singleton]; omega) (by have := HLS.o; simp only [List.length_singleton]; unfold maxLen; omega) HXs.o.size ?_; intro v7 w7 ho7 hb7 hg7)
     have HB7 := hid (a8o HBs.o hg7 HLO.o);have HX7 := hid (show Ext w3 w7 from Below.trans HXs.o hb7);have HO7 := hid ho7;obtain ⟨A7, c7, rfl⟩ := ho7.re.form;have hl7 : (S ++ [(((k1, k2), k3, k4), m)]).length <= 1000001 := by have := HLS.o; rw [List.length_append, List.length_singleton]; omega
     clear hb7 hg7 ho7 HXc HOc HBc HOs HXs HBs HLS HLS2 s0 s1 s2 s3 s4;have HLE := hid (a6A (s := (((k1, k2), k3, k4), m)) (o := S) (x := (((x1, x2), x3, x4), x5)) HNK.o HBQ.o);generalize S ++ [(((k1, k2), k3, k4), m)] = S7 at *;have HXc := hid HX7.o;have HOc := hid HO7.o;have HBc := hid HB7.o;have HLS := hid (show S7.length <= 1000001 from hl7);clear HX7 HO7 HB7 hl7;generalize w7 = wc at *;have y0 := HBc.o.c0;have y1 := HBc.o.c1;have y2 := HBc.o.c2;have y3 := HBc.o.c3;have y4 := HBc.o.c4;have hxl : Ext wc (wc.alloc (.cells #[.int .i64 x1, .int .i64 x2, .int .i64 x3, .int .i64 x4, .int .i64 x5] 38)) := (Ext.refl _).alloc _;have HLT := hid (RE.lit wc #[.int .i64 x1, .int .i64 x2, .int .i64 x3, .int .i64 x4, .int .i64 x5] 38 1 [(((x1, x2), x3, x4), x5)] rfl (by omega) rfl)
     have HOl := hid (HOc.o.ext hxl);have HXl := hid (HXc.o.trans hxl);clear hxl
     go_wp2_with (at_builtin; refine a07 rfl a5V _ _ _ rfl w3.heap.size _ _ S7 [(((x1, x2), x3, x4), x5)] rfl HOl.o rfl HLT.o (by have := HLS.o; simp only [List.length_singleton]; omega) (by have := HLS.o; simp only [List.length_singleton]; unfold maxLen; omega) HXl.o.size ?_; intro v8 w8 ho8 hb8 hg8)
     refine ⟨⟨j + 1, by omega, by go_num, by rw [HST.o, HLE.o], by rw [HST.o, HLE.o]; exact ho8, Below.trans HXl.o hb8⟩, by simp [intOf]; omega⟩
   rw [decide_eq_false hbq];have HBQ := hid hbq;clear hbq
   go_upto_region 17 with fail
   have y0 := HBc.o.c0;have y1 := HBc.o.c1;have y2 := HBc.o.c2;have y3 := HBc.o.c3;have y4 := HBc.o.c4;have hxl : Ext wc (wc.alloc (.cells #[.int .i64 x1, .int .i64 x2, .int .i64 x3, .int .i64 x4, .int .i64 x5] 38)) := (Ext.refl _).alloc _;have HLT := hid (RE.lit wc #[.int .i64 x1, .int .i64 x2, .int .i64 x3, .int .i64 x4, .int .i64 x5] 38 1 [(((x1, x2), x3, x4), x5)] rfl (by omega) rfl)
   have HOl := hid (HOc.o.ext hxl);have HXl := hid (HXc.o.trans hxl);clear hxl
   go_wp2_with (at_builtin; refine a07 rfl a5V _ _ _ rfl w3.heap.size _ _ S [(((x1, x2), x3, x4), x5)] rfl HOl.o rfl HLT.o (by have := HLS.o; simp only [List.length_singleton]; omega) (by have := HLS.o; simp only [List.length_singleton]; unfold maxLen; omega) HXl.o.size ?_; intro v8 w8 ho8 hb8 hg8)
   refine ⟨⟨j + 1, by omega, by go_num, by rw [HST.o, a1C HNK.o (.inr HBQ.o)], by rw [HST.o, a1C HNK.o (.inr HBQ.o)]; exact ho8, Below.trans HXl.o hb8⟩, by simp [intOf]; omega⟩
 obtain rfl : j = L.length := by omega
 rw [List.take_length] at HO hlen ⊢;have g3 : ¬ (L.length : Int) < (L.length : Int) := by omega
 have HBE := hid (HBG.o.ext hext);generalize hst : L.foldl (Cnt.a0Q (((k1, k2), k3, k4), m)) ([], m == 0) = st at *;have HRQ := hid (HSP.o st rfl);obtain ⟨S, P⟩ := st;dsimp only at *;obtain ⟨AS, cS, rfl⟩ := HO.o.re.form;clear ho hext hst HSP
 cases P with
 | true =>
  have hfz : wA.frozen? ⟨g, 0, none⟩ = false := HBE.o.frozen 0;rw [if_pos rfl] at HRQ
  go_wp2
  go_ret
  obtain ⟨hs1, hs2⟩ := b07 HBE.o HO.o HGL.o (by rw [<- HRQ.o]; exact HGP.o)
  rw [HHM.o, HRQ.o];exact ⟨rfl, hs1, (ExtG.of (HX3.o.trans HE.o)).trans hs2⟩
 | false =>
 rw [if_neg (by simp)] at HRQ
 have s0 := (HS3.o.ext HE.o).c0;have s1 := (HS3.o.ext HE.o).c1;have s2 := (HS3.o.ext HE.o).c2;have s3 := (HS3.o.ext HE.o).c3;have s4 := (HS3.o.ext HE.o).c4;have hxs : Ext wA (wA.alloc (.cells #[.int .i64 k1, .int .i64 k2, .int .i64 k3, .int .i64 k4, .int .i64 m] 38)) := (Ext.refl _).alloc _;have HLS2 := hid (RE.lit wA #[.int .i64 k1, .int .i64 k2, .int .i64 k3, .int .i64 k4, .int .i64 m] 38 1 [(((k1, k2), k3, k4), m)] rfl (by omega) rfl)
 have HOs := hid (HO.o.ext hxs);have HXs := hid (HE.o.trans hxs);have HBs := hid (HBE.o.ext hxs);have HLN := hid (show S.length <= 1000000 by omega)
 clear hxs
 go_upto_region 20 with (at_builtin; refine a07 rfl a5V _ _ _ rfl w3.heap.size _ _ S [(((k1, k2), k3, k4), m)] rfl HOs.o rfl HLS2.o (by have := HLN.o; simp only [List.length_singleton]; omega) (by have := HLN.o; simp only [List.length_singleton]; unfold maxLen; omega) HXs.o.size ?_; intro v7 w7 ho7 hb7 hg7)
 have HB7 := hid (HBG.o.ext (show Ext w3 w7 from Below.trans HXs.o hb7));have hfz : w7.frozen? ⟨g, 0, none⟩ = false := HB7.o.frozen 0;have cb7 := HB7.o.c0;have HX7 := hid (show Ext w3 w7 from Below.trans HXs.o hb7);have HO7 := hid ho7;obtain ⟨A7, c7, rfl⟩ := ho7.re.form;clear hb7 hg7 ho7 s0 s1 s2 s3 s4;generalize S ++ [(((k1, k2), k3, k4), m)] = S7 at *
 go_wp2
 go_ret
 obtain ⟨hs1, hs2⟩ := b07 HB7.o HO7.o HGL.o (by rw [<- HRQ.o]; exact HGP.o)
 rw [HHM.o, HRQ.o];exact ⟨rfl, hs1, (ExtG.of (HX3.o.trans HX7.o)).trans hs2⟩
end Go.Proofs.YtdkejfjcchlnpaaGreat.Ct
