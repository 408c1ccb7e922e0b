/-
  PlArcs, packed: what the claim needs of them.
-/
import Derived.Test.YtdkejfjcchlnpaaGreatFn19
import Derived.Test.YtdkejfjcchlnpaaGreatFn23
import Derived.Test.YtdkejfjcchlnpaaGreatFn29
set_option maxHeartbeats 40000000
open Go.Lib (hid)
set_option linter.unusedSimpArgs false
set_option linter.unusedVariables false
set_option maxRecDepth 100000
namespace Go.Ox.Pl
open Go.Ox.Gr Go.Proofs.YtdkejfjcchlnpaaGreat
def b41 (p : Int × Int) (u : (Int × Int) × Int) : Ar := ((p, u.1), (p.2 == -1 && u.1.2 != -1, 0))
def a5S (g : G) (p : Int × Int) : List Ar := (gUs g p).map (b41 p)
def lpN (g : G) : Nd := (g.1[(a04 g.1).toNat]?).getD default
def a7Z (g : G) : List Ar := if a1A g = true then a3B (a04 g.1) (lpN g).ins.head! (lpN g).body else []
def a3I (g : G) : List Ar := (gPl g).flatMap (a5S g) ++ a7Z g
theorem b42 {α β : Type} (f : α → List β) (l : List α) {k : Nat} (h : k < l.length) (j : Nat) : ((l.take k).flatMap f ++ (f l[k]).take j).length ≤ (l.flatMap f).length := by
 have e : l.flatMap f = (l.take k).flatMap f ++ (f l[k] ++ (l.drop (k + 1)).flatMap f) := by
  conv => lhs; rw [← List.take_append_drop k l, List.flatMap_append, List.drop_eq_getElem_cons h, List.flatMap_cons]
 rw [e, List.length_append, List.length_append, List.length_append, List.length_take];omega
theorem flatk {α β : Type} (f : α → List β) (l : List α) {k : Nat} (h : k < l.length) : (l.take (k + 1)).flatMap f = (l.take k).flatMap f ++ f l[k] := by
 rw [List.take_succ_eq_append_getElem h, List.flatMap_append]; simp
theorem mapk {α β : Type} (f : α → β) (l : List α) {k : Nat} (h : k < l.length) : (l.take (k + 1)).map f = (l.take k).map f ++ [f l[k]] := by
 rw [List.take_succ_eq_append_getElem h, List.map_append]; rfl
theorem a3D : ∀ (l : List Nd) (i n : Nat), a0d l i = ((i + n : Nat) : Int) → ∀ (hn : n < l.length), (l[n]).op = 9
 | [], _, _, _, h => by simp at h
 | m :: l, i, n, e, h => by
  by_cases q : m.op = 9
  · rw [a0P q] at e
    obtain rfl : n = 0 := by omega
    exact q
  · rw [a0K q] at e
    rcases a14 l (i + 1) with k | k
    · omega
    · obtain ⟨n, rfl⟩ : ∃ m, n = m + 1 := ⟨n - 1, by omega⟩
      exact a3D l (i + 1) n (by rw [e]; congr 1; omega) (by simpa using h)
theorem b0h {g : G} (h : a1A g = true) : ∃ (n : Nat) (hn : n < g.1.length) (i0 : Int) (ir : List Int), a04 g.1 = (n : Int) ∧ a5G g = (n : Int) ∧ lpN g = g.1[n] ∧ g.1[n].ins = i0 :: ir ∧ 1 ≤ g.1[n].body.length ∧ g.1[n].body.length ≤ 32 ∧ g.1[n].op = 9 := by
 unfold a1A at h;rw [Bool.and_eq_true, decide_eq_true_eq] at h;obtain ⟨hok, h0⟩ := h;obtain ⟨l, out⟩ := g;simp only at h0 ⊢;obtain ⟨n, hn⟩ : ∃ n : Nat, a04 l = (n : Int) := ⟨(a04 l).toNat, by omega⟩
 have hnl : n < l.length := by rcases a1c l with q | q <;> omega
 have h9 : (l[n]).op = 9 := by
  by_cases q : (l[n]).op = 9
  · exact q
  exfalso;exact q (a3D l 0 n (by rw [Nat.zero_add]; exact hn) hnl)
 have htop := a1x hok hnl
 have hbody : 1 ≤ (l[n]).body.length := by
  rcases htop.2.2.2 with q | q
  · have := q.2
    unfold a2K at this;simp only [Bool.and_eq_true, decide_eq_true_eq] at this;exact this.1
  exact absurd q.1 (fun e => e h9)
 have hnd := a4d hok (List.getElem_mem hnl)
 have hins : (l[n]).ins.length = 1 := by
  have := htop.1;unfold base at this;simp only [Bool.and_eq_true, decide_eq_true_eq] at this;have h1 := this.2.1;rw [h9] at h1;simp [arity] at h1;omega
 obtain ⟨x, hx⟩ : ∃ x, (l[n]).ins = [x] := List.length_eq_one_iff.1 hins;refine ⟨n, hnl, x, [], hn, ?_, ?_, hx, hbody, hnd.2.1, h9⟩
 · unfold a5G; rw [if_pos hok]; simp only; omega
 unfold lpN; simp only; rw [hn, Int.toNat_natCast, List.getElem?_eq_getElem hnl]; rfl
theorem b43 (g : G) : (gPl g).length ≤ 10100 := by
 unfold gPl
 split
 · rename_i h
   have := a4Z g.1 g.1.length (a5R (l := g.1) (out := g.2) h).2 (a5R (l := g.1) (out := g.2) h).1;rwa [List.take_length] at this
 simp
end Go.Ox.Pl
namespace Go.Proofs.YtdkejfjcchlnpaaGreat
open Go.RowKit Go.Ox Go.Shelf Go.Sort Go.Ox.Gr
theorem b0i {s : List Pl.Ar} (h : s.Pairwise (fun a b => ltA b a = false)) : Pl.b3I s := h.imp fun {a b} e q => by
 have := (a7P b a).2 q;rw [e] at this; cases this
theorem a7j (w : World) : Calls Tryz.prog 173 #[.slice none 0 0, .func (.func 174) #[] #[]] w fun e w' => e = .returned (.slice none 0 0) ∧ w' = w := by
 go_enter Tryz.func173, Tryz.ntmps173
 go_wp2
 go_ret
 exact ⟨rfl, rfl⟩
theorem a4o (v : Value) (l : List Pl.Ar) (base : Nat) (w : World) (ho : OE 144 base w v l) (hl : l.length ≤ 1000000) :
 Calls Tryz.prog 173 #[v, .func (.func 174) #[] #[]] w fun e w' => ∃ v', e = .returned v' ∧ OE 144 base w' v' (Pl.dd l) ∧ w.grownBy w' v.ownBlock := by
 rcases ho.own.2 with ⟨rfl, h0⟩ | ⟨g, cap, cur, rfl, hb, _⟩
 · obtain rfl := List.eq_nil_of_length_eq_zero h0
   refine (a7j w).mono ?_;rintro e w' ⟨rfl, rfl⟩;exact ⟨_, rfl, OE.a2F _ _ _, World.grownBy.refl _ _⟩
 exact a71 g cap base l w ho hl
attribute [local irreducible] RE OE a00
theorem b2b (d : Nat) (v : Value) (g : G) (w : World) (hv : a00 d w v g.1) (hlen : (Pl.a3I g).length ≤ 5000) :
 Calls Tryz.prog 136 #[gAg v g.2] w fun e w' => ∃ u s, e = .returned u ∧ s.Perm (Pl.a3I g) ∧ Pl.b3I s ∧ OE 144 w.heap.size w' u (Pl.dd s) ∧ Ext w w' := by
 have HPL := hid (fun W (h : Ext w W) => a7i d v g W (hv.ext h))
 have HUS := hid (fun p W (h : Ext w W) => a8S d v g p W (hv.ext h))
 have HLP := hid (fun W (h : Ext w W) => a6n d v g.1 g.2 W (hv.ext h))
 have HRN := hid (fun (hB : a1A g = true) W (h : Ext w W) => by
  obtain ⟨n, hn, i0, ir, h1, h2, h3, h4, h5, h6, h7⟩ := Pl.b0h hB;have q := a9R d v g.1 g.2 i0 ir n W (hv.ext h) hn h4 h5 (by omega)
  have e : Pl.a7Z g = Pl.a3B n i0 (g.1[n]).body := by unfold Pl.a7Z; rw [if_pos hB, h3, h4, h1]; rfl
  rw [← e, ← h2] at q
  exact q)
 have HRE := hid (show Pl.a7Z g = if a1A g = true then Pl.a7Z g else [] from by
  by_cases q : a1A g = true
  · rw [if_pos q]
  rw [if_neg q]; unfold Pl.a7Z; rw [if_neg q])
 have HLPI := hid (show (g.1, g.2) = g from rfl);rw [show (g.1, g.2) = g from rfl] at HLP;have HA0 := hid (show Pl.a3I g = (gPl g).flatMap (Pl.a5S g) ++ Pl.a7Z g from rfl);have HAP := hid (show ∀ p, Pl.a5S g p = (gUs g p).map (Pl.b41 p) from fun _ => rfl)
 have HLN := hid hlen;have hpn := Pl.b43 g;obtain ⟨l, out⟩ := g;generalize a5G (l, out) = LI at *;generalize a1A (l, out) = LB at *;generalize Pl.a7Z (l, out) = RL at *;generalize Pl.a3I (l, out) = A0 at *;generalize gPl (l, out) = PL at *;generalize gUs (l, out) = US at *;generalize Pl.a5S (l, out) = AP at *;have HPN := hid hpn
 have HFB := hid (show (PL.flatMap AP).length ≤ 5000 ∧ RL.length ≤ 5000 ∧ ((PL.flatMap AP).length + RL.length) ≤ 5000 from by
  have h1 := HLN.o;rw [HA0.o, List.length_append] at h1
  exact ⟨by omega, by omega, by omega⟩)
 simp only at HPL HUS HLP HRN hv;obtain ⟨A, c, rfl⟩ := hv.form;have HX0 := hid ((Ext.refl w).alloc (gCs (.slice A l.length c) out));have HB0 := hid (Blk.new w 24 #[.slice A l.length c, .int .i64 out]);clear hlen hv hpn
 go_enter Tryz.func136, Tryz.ntmps136
 go_upto_region 1 with fail
 obtain ⟨p, hp⟩ : ∃ p, p = w.heap.size := ⟨_, rfl⟩;rw [← hp] at HB0 ⊢;have HPS := hid hp;clear hp;generalize w.alloc (gCs (.slice A l.length c) out) = w0 at *;have c0 := HB0.o.c0;have c1 := HB0.o.c1
 go_wp2_with fail
 refine (HPL.o w0 HX0.o).mono ?_;rintro e w1 ⟨uv, rfl, huv, he1⟩;obtain ⟨AV, cV, rfl⟩ := huv.form;have HV := hid huv;have HX1 := hid (HX0.o.trans he1);have HB1 := hid (HB0.o.ext he1);have HPB := hid (show p < w1.heap.size ∧ w.heap.size ≤ w1.heap.size from ⟨HB1.o.lt, HX1.o.size⟩);clear c0 c1 huv he1 HB0 HX0
 go_wp2
 go_loopw [3, 13] (fun o iv wr => ∃ k : Nat, k ≤ PL.length ∧ iv = .int .i64 (k : Int) ∧ OE 144 w1.heap.size wr o ((PL.take k).flatMap AP) ∧ Ext w1 wr) (fun _ iv _ => PL.length - (intOf iv).toNat)
 case atStart => exact ⟨0, Nat.zero_le _, rfl, OE.a2F _ _ _, Ext.refl _⟩
 case round =>
 obtain ⟨k, hk, rfl, ho, hx⟩ := hrel;rename World => wr
 have HO := hid ho;have HX := hid hx;obtain ⟨AO, cO, hvo⟩ := ho.re.form;have HBW := hid (HB1.o.ext hx);have HVW := hid (HV.o.ext hx);have HXW := hid (HX1.o.trans hx);clear ho hx
 by_cases hlt : k < PL.length
 · have r1 : (k : Int) < (PL.length : Int) := by omega
   have HLT := hid hlt;obtain ⟨bB, oB, hAV, hcV⟩ := RE.at_ HVW.o hlt;have HTK := hid (Pl.flatk AP PL hlt);have HPR := hid (show ∀ j, ((PL.take k).flatMap AP ++ (AP PL[k]).take j).length ≤ 5000 from fun j => Nat.le_trans (Pl.b42 AP PL hlt j) HFB.o.1)
   generalize PL[k] = y at *;have HAY := hid (HAP.o y);have HUY := hid (HUS.o y);generalize AP y = APY at *;generalize US y = USY at *;obtain ⟨y1, y2⟩ := y;obtain ⟨FK, hFK⟩ : ∃ FK : List Pl.Ar, FK = (PL.take k).flatMap AP := ⟨_, rfl⟩;rw [← hFK] at HO hvo HTK HPR;clear hFK;have HFK := hid (show FK.length ≤ 5000 from by have := HPR.o 0; rw [List.length_append] at this; omega)
   have k0 : wr.cell? ⟨bB, oB + k * 2, none⟩ = some (.int .i64 y1) := hcV 0 _ rfl;have k1 : wr.cell? ⟨bB, oB + k * 2 + 1, none⟩ = some (.int .i64 y2) := hcV 1 _ rfl;subst hAV;subst hvo;have HXN := hid ((Ext.refl wr).alloc (.cells #[.int .i64 y1, .int .i64 y2] 27));have HYN := hid (Blk.new wr 27 #[.int .i64 y1, .int .i64 y2]);clear hcV hlt hk
   go_upto_region 5 with fail
   clear k0 k1;obtain ⟨q, hq⟩ : ∃ q, q = wr.heap.size := ⟨_, rfl⟩;rw [← hq] at HYN ⊢;have HQ := hid (show q = wr.heap.size from hq);clear hq;have HO1 := hid (HO.o.ext HXN.o);have HB2 := hid (HBW.o.ext HXN.o);have HX2 := hid (HXW.o.trans HXN.o);have HXE := hid (HX.o.trans HXN.o);generalize wr.alloc (.cells #[.int .i64 y1, .int .i64 y2] 27) = w5 at *;have a0 := HB2.o.c0;have a1 := HB2.o.c1;have d0 := HYN.o.c0;have d1 := HYN.o.c1
   go_wp2_with fail
   refine (HUY.o w5 HX2.o).mono ?_;rintro e w6 ⟨uu, rfl, huu, he6⟩;obtain ⟨AU, cU, rfl⟩ := huu.re.form;have HO6 := hid (HO1.o.ext he6);have HY6 := hid (HYN.o.ext he6);have HX6 := hid (HXE.o.trans he6);have HQW := hid (show ∀ i, (Value.slice AO FK.length cO).ownBlock = some i → w1.heap.size ≤ i ∧ i < q from fun i hi => by rw [HQ.o]; exact HO.o.own.lt i hi)
   have HU6 := hid (show ∀ W, ExtQ (fun i => (Value.slice AO FK.length cO).ownBlock = some i) w6 W → RE W (.slice AU USY.length cU) USY from fun W hW => (OE.extK huu hW (fun i hi e => by
    have h1 := (huu.own.lt i hi).1;have h2 := (HO1.o.own.lt i e).2
    omega)).re)
   clear huu he6 a0 a1 d0 d1 HVW HBW HO HX HO1;obtain ⟨R0, hR0⟩ : ∃ R0 : Nat → Prop, R0 = fun i => (Value.slice AO FK.length cO).ownBlock = some i := ⟨_, rfl⟩
   have HR0 := hid (show ∀ i, R0 i ↔ ((Value.slice AO FK.length cO).ownBlock = some i) from fun i => by rw [hR0])
   rw [← hR0] at HU6;clear hR0
   go_wp2
   go_loopw [3, 21] (fun o iv wx => ∃ j : Nat, j ≤ USY.length ∧ iv = .int .i64 (j : Int) ∧ OE 144 w1.heap.size wx o (FK ++ APY.take j) ∧ ExtQ R0 w6 wx ∧ (∀ q, o.ownBlock = some q → R0 q ∨ w6.heap.size ≤ q)) (fun _ iv _ => USY.length - (intOf iv).toNat)
   case atStart => exact ⟨0, Nat.zero_le _, rfl, by simpa using HO6.o, ExtQ.refl _ _, fun q hq => .inl ((HR0.o q).2 hq)⟩
   case round =>
   obtain ⟨j, hj, rfl, ho, hx, hob⟩ := hrel;rename World => wx
   have HO := hid ho;have HX := hid hx;have HOB := hid hob;obtain ⟨AX, cX, hvo⟩ := ho.re.form;have HUW := hid (HU6.o wx hx)
   have HYW := hid (HY6.o.a0Q hx (fun e => by
    have h2 := (HQW.o _ ((HR0.o _).1 e)).2
    omega))
   clear ho hx hob
   by_cases hlt : j < USY.length
   · have r1 : (j : Int) < (USY.length : Int) := by omega
     have HJT := hid hlt;obtain ⟨bU, oU, hAU, hcU⟩ := RE.at_ HUW.o hlt;have HMK := hid (show APY.take (j + 1) = APY.take j ++ [Pl.b41 (y1, y2) USY[j]] from by rw [HAY.o, ← List.map_take, ← List.map_take]; exact Pl.mapk _ _ hlt)
     generalize USY[j] = z at *;obtain ⟨⟨z1, z2⟩, z3⟩ := z;obtain ⟨FM, hFM⟩ : ∃ FM : List Pl.Ar, FM = FK ++ APY.take j := ⟨_, rfl⟩;have HFM := hid (show FM.length ≤ 5000 ∧ FK ++ APY.take (j + 1) = FM ++ [Pl.b41 (y1, y2) ((z1, z2), z3)] from ⟨by rw [hFM]; exact HPR.o j, by rw [HMK.o, hFM, List.append_assoc]⟩)
     rw [← hFM] at HO hvo;clear hFM HMK;have k0 : wx.cell? ⟨bU, oU + j * 3, none⟩ = some (.int .i64 z1) := hcU 0 _ rfl;have k1 : wx.cell? ⟨bU, oU + j * 3 + 1, none⟩ = some (.int .i64 z2) := hcU 1 _ rfl;have k2 : wx.cell? ⟨bU, oU + j * 3 + 2, none⟩ = some (.int .i64 z3) := hcU 2 _ rfl;subst hAU;subst hvo;have HXZ := hid ((Ext.refl wx).alloc (.cells #[.int .i64 z1, .int .i64 z2, .int .i64 z3] 210));have HZN := hid (Blk.new wx 210 #[.int .i64 z1, .int .i64 z2, .int .i64 z3]);clear hcU hlt hj
     go_upto_region 8 with fail
     clear k0 k1 k2;obtain ⟨qz, hqz⟩ : ∃ q, q = wx.heap.size := ⟨_, rfl⟩;rw [← hqz] at HZN ⊢;clear hqz;have HO7 := hid (HO.o.ext HXZ.o);have HY7 := hid (HYW.o.ext HXZ.o);have HX7 := hid HXZ.o;generalize wx.alloc (.cells #[.int .i64 z1, .int .i64 z2, .int .i64 z3] 210) = w7 at *;have d0 := HY7.o.c0;have d1 := HY7.o.c1;have b0 := HZN.o.c0;have b1 := HZN.o.c1;have b2 := HZN.o.c2;obtain ⟨st, hst⟩ : ∃ b : Bool, b = (y2 == -1 && z2 != -1) := ⟨_, rfl⟩;have HAU := hid (show Pl.b41 (y1, y2) ((z1, z2), z3) = ((((y1, y2), (z1, z2)), (st, (0 : Int))) : Pl.Ar) from by rw [hst]; rfl)
     have HST := hid hst;have HL1 := hid (RE.lit w7 #[.int .i64 y1, .int .i64 y2, .int .i64 z1, .int .i64 z2, .bool st, .int .i64 0] 144 1 [((((y1, y2), (z1, z2)), (st, (0 : Int))) : Pl.Ar)] rfl (by omega) rfl)
     have HXA := hid ((Ext.refl w7).alloc (.cells #[.int .i64 y1, .int .i64 y2, .int .i64 z1, .int .i64 z2, .bool st, .int .i64 0] 144));have HOL := hid (HO7.o.ext HXA.o);have HXB := hid (HX7.o.trans HXA.o);have hj9 : (j : Int) + 1 ≤ 1000000 := by have h1 := HJT.o; have h2 := HPR.o USY.length; have h3 := congrArg List.length HAY.o; rw [List.length_append, List.length_take] at h2; rw [List.length_map] at h3; omega
     clear hst
     by_cases t1 : y2 = -1
     · have HT1 := hid t1
       have t2 : (y2 == -1) = true := by simpa using t1
       have t3 : (z2 != -1) = st := by rw [HST.o, t2]; simp
       clear t1
       go_wp2_with (at_builtin; refine a1d rfl a5L _ _ _ rfl w1.heap.size _ _ FM [((((y1, y2), (z1, z2)), (st, (0 : Int))) : Pl.Ar)] rfl HOL.o rfl HL1.o (by have h1 := HFM.o.1; simp; omega) (by have h1 := HFM.o.1; unfold maxLen; simp; omega) (by have h1 := HX6.o.size; have h2 := HX.o.size; have h3 := HXB.o.size; omega) ?_; intro v9 w9 ho9 hg9 hat9)
       obtain ⟨hx9, hob9⟩ := b3C HX.o HOB.o HXB.o hg9 hat9;exact ⟨⟨j + 1, HJT.o, by go_num, by rw [HFM.o.2, HAU.o]; exact ho9, hx9, hob9⟩, by have := HJT.o; simp [intOf]; omega⟩
     have t2 : (y2 == -1) = false := by simpa using t1
     have HSF := hid (show st = false from by rw [HST.o, t2]; rfl)
     clear t1;obtain rfl := HSF.o
     go_wp2_with (at_builtin; refine a1d rfl a5L _ _ _ rfl w1.heap.size _ _ FM [((((y1, y2), (z1, z2)), (false, (0 : Int))) : Pl.Ar)] rfl HOL.o rfl HL1.o (by have h1 := HFM.o.1; simp; omega) (by have h1 := HFM.o.1; unfold maxLen; simp; omega) (by have h1 := HX6.o.size; have h2 := HX.o.size; have h3 := HXB.o.size; omega) ?_; intro v9 w9 ho9 hg9 hat9)
     obtain ⟨hx9, hob9⟩ := b3C HX.o HOB.o HXB.o hg9 hat9;exact ⟨⟨j + 1, HJT.o, by go_num, by rw [HFM.o.2, HAU.o]; exact ho9, hx9, hob9⟩, by have := HJT.o; simp [intOf]; omega⟩
   have r1 : ¬ (j : Int) < (USY.length : Int) := by omega
   obtain rfl : j = USY.length := by omega
   have HFF := hid (show FK ++ APY.take USY.length = (PL.take (k + 1)).flatMap AP from by
    rw [HTK.o, List.take_of_length_le (by rw [HAY.o, List.length_map]; exact Nat.le_refl _)])
   have HF := hid (show OE 144 w1.heap.size wx _ ((PL.take (k + 1)).flatMap AP) from by rw [← HFF.o]; exact HO.o)
   have HG := hid (show Ext w1 wx from HX6.o.a4N HX.o (fun i hi => (HQW.o i ((HR0.o i).1 hi)).1))
   have hk9 : (k : Int) + 1 ≤ 1000000 := by have h1 := HLT.o; have h2 := HPN.o; omega
   clear hj hlt hvo
   go_wp2
   exact ⟨⟨k + 1, HLT.o, by go_num, HF.o, HG.o⟩, by have := HLT.o; simp [intOf]; omega⟩
 have r1 : ¬ (k : Int) < (PL.length : Int) := by omega
 obtain rfl : k = PL.length := by omega
 rw [List.take_length] at HO hvo;obtain ⟨FK, hFK⟩ : ∃ FK : List Pl.Ar, FK = PL.flatMap AP := ⟨_, rfl⟩;rw [← hFK] at HO hvo HFB HA0;subst hvo;have a0 := HBW.o.c0;have a1 := HBW.o.c1;clear hlt hk hFK
 go_wp2_with fail
 refine (HLP.o wr HXW.o).mono ?_;rintro e w6 ⟨rfl, he6⟩;have HB6 := hid (HBW.o.ext he6);have HX6 := hid (HX.o.trans he6);have HO6 := hid (HO.o.ext he6);have HXW6 := hid (HXW.o.trans he6);clear he6 a0 a1 HO HX HBW HVW HXW
 cases LB with
 | false =>
  have HFN := hid (show FK.length ≤ 5000 ∧ FK = A0 from ⟨HFB.o.1, by rw [HA0.o, HRE.o]; simp⟩)
  obtain ⟨FN, hFN⟩ : ∃ FN, FN = FK := ⟨_, rfl⟩;rw [← hFN] at HFN HO6 ⊢;have HON := hid HO6.o;have HXN := hid HX6.o;clear hFN HO6 HX6
  go_wp2_with fail
  refine (a2t _ FN w1.heap.size _ HON.o (by have := HFN.o.1; omega)).mono ?_
  rintro e w8 ⟨rfl, s, hsp, hss, hos, hgs⟩;have HSP := hid (show s.Perm A0 from by rw [← HFN.o.2]; exact hsp)
  have HSS := hid (b0i hss);have HSL := hid (show s.length ≤ 5000 ∧ FN.length = s.length from ⟨by rw [hsp.length_eq]; exact HFN.o.1, hsp.length_eq.symm⟩)
  have HOS := hid hos;have HXS := hid (HXN.o.grown hgs fun i hi => (HON.o.own.lt i hi).1)
  clear hsp hss hos hgs
  go_wp2_with fail
  refine (a4o _ s w1.heap.size _ HOS.o (by have := HSL.o.1; omega)).mono ?_
  rintro e w9 ⟨vr, rfl, hor, hgr⟩;have HOR := hid (OE.low hor HPB.o.2);have HXR := hid (HX1.o.trans (HXS.o.grown hgr fun i hi => (HOS.o.own.lt i hi).1))
  clear hor hgr
  go_wp2
  go_ret
  exact ⟨_, s, rfl, HSP.o, HSS.o, HOR.o, HXR.o⟩
 | true =>
 have HLB := hid (HRN.o rfl);have a0 := HB6.o.c0;have a1 := HB6.o.c1
 go_wp2_with fail
 refine (HLB.o w6 HXW6.o).mono ?_;rintro e w7 ⟨ur, rfl, hur, he7⟩;have HO7 := hid (HO6.o.ext he7);have HX7 := hid (HX6.o.trans he7);have HUR := hid hur.re;obtain ⟨AR, cR, rfl⟩ := hur.re.form;clear hur he7 a0 a1
 go_wp2_with (at_builtin; refine a1d rfl a5L _ _ _ rfl w1.heap.size _ _ FK RL rfl HO7.o rfl HUR.o (by have h1 := HFB.o; omega) (by have h1 := HFB.o; unfold maxLen; omega) HX7.o.size ?_; intro vn wn hon hgn hatn)
 have HXN := hid (HX7.o.grown hgn fun i hi => (HO7.o.own.lt i hi).1)
 have HFN := hid (show (FK ++ RL).length ≤ 5000 ∧ FK ++ RL = A0 from ⟨by rw [List.length_append]; exact HFB.o.2.2, by rw [HA0.o]⟩)
 generalize FK ++ RL = FN at *;have HON := hid hon;obtain ⟨AN, cN, rfl⟩ := hon.re.form;clear hon hgn hatn
 go_wp2_with fail
 refine (a2t _ FN w1.heap.size _ HON.o (by have := HFN.o.1; omega)).mono ?_
 rintro e w8 ⟨rfl, s, hsp, hss, hos, hgs⟩;have HSP := hid (show s.Perm A0 from by rw [← HFN.o.2]; exact hsp)
 have HSS := hid (b0i hss);have HSL := hid (show s.length ≤ 5000 ∧ FN.length = s.length from ⟨by rw [hsp.length_eq]; exact HFN.o.1, hsp.length_eq.symm⟩)
 have HOS := hid hos;have HXS := hid (HXN.o.grown hgs fun i hi => (HON.o.own.lt i hi).1)
 clear hsp hss hos hgs
 go_wp2_with fail
 refine (a4o _ s w1.heap.size _ HOS.o (by have := HSL.o.1; omega)).mono ?_
 rintro e w9 ⟨vr, rfl, hor, hgr⟩;have HOR := hid (OE.low hor HPB.o.2);have HXR := hid (HX1.o.trans (HXS.o.grown hgr fun i hi => (HOS.o.own.lt i hi).1))
 clear hor hgr
 go_wp2
 go_ret
 exact ⟨_, s, rfl, HSP.o, HSS.o, HOR.o, HXR.o⟩
end Go.Proofs.YtdkejfjcchlnpaaGreat
