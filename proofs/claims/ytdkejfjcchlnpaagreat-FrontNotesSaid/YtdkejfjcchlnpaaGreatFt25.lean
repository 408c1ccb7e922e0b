/-
  PlArcs, GrOrd, packed: what the claim needs of them.
-/
import Derived.Test.YtdkejfjcchlnpaaGreatFt24
set_option maxHeartbeats 40000000
open Go.Lib (hid)
set_option linter.unusedSimpArgs false
set_option linter.unusedVariables false
set_option maxRecDepth 100000
namespace Go.Ox.Pl
open Go.Ox.Gr Go.Proofs.YtdkejfjcchlnpaaGreat
def b6A (p : Int × Int) (u : (Int × Int) × Int) : Ar := ((p, u.1), (p.2 == -1 && u.1.2 != -1, 0))
def a7b (g : G) (p : Int × Int) : List Ar := (gUs g p).map (b6A p)
def lpN (g : G) : Nd := (g.1[(a05 g.1).toNat]?).getD default
def a9O (g : G) : List Ar := if a1Q g = true then a4D (a05 g.1) (lpN g).ins.head! (lpN g).body else []
def a4L (g : G) : List Ar := (gPl g).flatMap (a7b g) ++ a9O g
theorem b6B {α β : Type} (f : α -> List β) (l : List α) {k : Nat} (h : k < l.length) (j : Nat) : ((l.take k).flatMap f ++ (f l[k]).take j).length <= (l.flatMap f).length := by
 have e : l.flatMap f = (l.take k).flatMap f ++ (f l[k] ++ (l.drop (k + 1)).flatMap f) := by
  conv => lhs; rw [<- List.take_append_drop k l, List.flatMap_append, List.drop_eq_getElem_cons h, List.flatMap_cons]
 rw [e, List.length_append, List.length_append, List.length_append, List.length_take];omega
theorem flatk {α β : Type} (f : α -> List β) (l : List α) {k : Nat} (h : k < l.length) : (l.take (k + 1)).flatMap f = (l.take k).flatMap f ++ f l[k] := by
 rw [List.take_succ_eq_append_getElem h, List.flatMap_append]; simp
theorem mapk {α β : Type} (f : α -> β) (l : List α) {k : Nat} (h : k < l.length) : (l.take (k + 1)).map f = (l.take k).map f ++ [f l[k]] := by
 rw [List.take_succ_eq_append_getElem h, List.map_append]; rfl
theorem a4G : ∀ (l : List Nd) (i n : Nat), a0k l i = ((i + n : Nat) : Int) -> ∀ (hn : n < l.length), (l[n]).op = 9
 | [], _, _, _, h => by simp at h
 | m :: l, i, n, e, h => by
  by_cases q : m.op = 9
  . rw [a15 q] at e
    obtain rfl : n = 0 := by omega
    exact q
  . rw [a10 q] at e
    rcases a1p l (i + 1) with k | k
    . omega
    . obtain ⟨n, rfl⟩ : ∃ m, n = m + 1 := ⟨n - 1, by omega⟩
      exact a4G l (i + 1) n (by rw [e]; congr 1; omega) (by simpa using h)
theorem b2p {g : G} (h : a1Q g = true) : ∃ (n : Nat) (hn : n < g.1.length) (i0 : Int) (ir : List Int), a05 g.1 = (n : Int) ∧ a6V g = (n : Int) ∧ lpN g = g.1[n] ∧ g.1[n].ins = i0 :: ir ∧ 1 <= g.1[n].body.length ∧ g.1[n].body.length <= 32 ∧ g.1[n].op = 9 := by
 unfold a1Q at h;rw [Bool.and_eq_true, decide_eq_true_eq] at h;obtain ⟨hok, h0⟩ := h;obtain ⟨l, out⟩ := g;simp only at h0 ⊢;obtain ⟨n, hn⟩ : ∃ n : Nat, a05 l = (n : Int) := ⟨(a05 l).toNat, by omega⟩
 have hnl : n < l.length := by rcases a1w l with q | q <;> omega
 have h9 : (l[n]).op = 9 := by
  by_cases q : (l[n]).op = 9
  . exact q
  exfalso;exact q (a4G l 0 n (by rw [Nat.zero_add]; exact hn) hnl)
 have htop := a1X hok hnl
 have hbody : 1 <= (l[n]).body.length := by
  rcases htop.2.2.2 with q | q
  . have := q.2
    unfold a2k at this;simp only [Bool.and_eq_true, decide_eq_true_eq] at this;exact this.1
  exact absurd q.1 (fun e => e h9)
 have hnd := a5k hok (List.getElem_mem hnl)
 have hins : (l[n]).ins.length = 1 := by
  have := htop.1;unfold base at this;simp only [Bool.and_eq_true, decide_eq_true_eq] at this;have h1 := this.2.1;rw [h9] at h1;simp [arity] at h1;omega
 obtain ⟨x, hx⟩ : ∃ x, (l[n]).ins = [x] := List.length_eq_one_iff.1 hins;refine ⟨n, hnl, x, [], hn, ?_, ?_, hx, hbody, hnd.2.1, h9⟩
 . unfold a6V; rw [if_pos hok]; simp only; omega
 unfold lpN; simp only; rw [hn, Int.toNat_natCast, List.getElem?_eq_getElem hnl]; rfl
theorem b6C (g : G) : (gPl g).length <= 10100 := by
 unfold gPl
 split
 . rename_i h
   have := a16 g.1 g.1.length (a2C (l := g.1) (out := g.2) h).2 (a2C (l := g.1) (out := g.2) h).1;rwa [List.take_length] at this
 simp
end Go.Ox.Pl
namespace Go.Proofs.YtdkejfjcchlnpaaGreat
open Go.RowKit Go.Ox Go.Shelf Go.Sort Go.Ox.Gr
theorem b2q {s : List Pl.Ar} (h : s.Pairwise (fun a b => ltA b a = false)) : Pl.b6g s := h.imp fun {a b} e q => by
 have := (a9C b a).2 q;rw [e] at this; cases this
theorem a8Z (w : World) : Calls Tryz.prog 173 #[.slice none 0 0, .func (.func 174) #[] #[]] w fun e w' => e = .returned (.slice none 0 0) ∧ w' = w := by
 go_enter Tryz.func173, Tryz.ntmps173
 go_wp2
 go_ret
 exact ⟨rfl, rfl⟩
theorem a5A (v : Value) (l : List Pl.Ar) (base : Nat) (w : World) (ho : OE 144 base w v l) (hl : l.length <= 1000000) :
 Calls Tryz.prog 173 #[v, .func (.func 174) #[] #[]] w fun e w' => ∃ v', e = .returned v' ∧ OE 144 base w' v' (Pl.dd l) ∧ w.grownBy w' v.ownBlock := by
 rcases ho.own.2 with ⟨rfl, h0⟩ | ⟨g, cap, cur, rfl, hb, _⟩
 . obtain rfl := List.eq_nil_of_length_eq_zero h0
   refine (a8Z w).mono ?_;rintro e w' ⟨rfl, rfl⟩;exact ⟨_, rfl, OE.a2g _ _ _, World.grownBy.refl _ _⟩
 exact a8L g cap base l w ho hl
attribute [local irreducible] RE OE a00
theorem b4x (d : Nat) (v : Value) (g : G) (w : World) (hv : a00 d w v g.1) (hlen : (Pl.a4L g).length <= 5000) :
 Calls Tryz.prog 136 #[gAg v g.2] w fun e w' => ∃ u s, e = .returned u ∧ s.Perm (Pl.a4L g) ∧ Pl.b6g s ∧ OE 144 w.heap.size w' u (Pl.dd s) ∧ Ext w w' := by
 have HPL := hid (fun W (h : Ext w W) => a8Y d v g W (hv.ext h))
 have HUS := hid (fun p W (h : Ext w W) => b0R d v g p W (hv.ext h))
 have HLP := hid (fun W (h : Ext w W) => a7L d v g.1 g.2 W (hv.ext h))
 have HRN := hid (fun (hB : a1Q g = true) W (h : Ext w W) => by
  obtain ⟨n, hn, i0, ir, h1, h2, h3, h4, h5, h6, h7⟩ := Pl.b2p hB;have q := b1W d v g.1 g.2 i0 ir n W (hv.ext h) hn h4 h5 (by omega)
  have e : Pl.a9O g = Pl.a4D n i0 (g.1[n]).body := by unfold Pl.a9O; rw [if_pos hB, h3, h4, h1]; rfl
  rw [<- e, <- h2] at q
  exact q)
 have HRE := hid (show Pl.a9O g = if a1Q g = true then Pl.a9O g else [] from by
  by_cases q : a1Q g = true
  . rw [if_pos q]
  rw [if_neg q]; unfold Pl.a9O; rw [if_neg q])
 have HLPI := hid (show (g.1, g.2) = g from rfl);rw [show (g.1, g.2) = g from rfl] at HLP;have HA0 := hid (show Pl.a4L g = (gPl g).flatMap (Pl.a7b g) ++ Pl.a9O g from rfl);have HAP := hid (show ∀ p, Pl.a7b g p = (gUs g p).map (Pl.b6A p) from fun _ => rfl)
 have HLN := hid hlen;have hpn := Pl.b6C g;obtain ⟨l, out⟩ := g;generalize a6V (l, out) = LI at *;generalize a1Q (l, out) = LB at *;generalize Pl.a9O (l, out) = RL at *;generalize Pl.a4L (l, out) = A0 at *;generalize gPl (l, out) = PL at *;generalize gUs (l, out) = US at *;generalize Pl.a7b (l, out) = AP at *;have HPN := hid hpn
 have HFB := hid (show (PL.flatMap AP).length <= 5000 ∧ RL.length <= 5000 ∧ ((PL.flatMap AP).length + RL.length) <= 5000 from by
  have h1 := HLN.o;rw [HA0.o, List.length_append] at h1
  exact ⟨by omega, by omega, by omega⟩)
 simp only at HPL HUS HLP HRN hv;obtain ⟨A, c, rfl⟩ := hv.form;have HX0 := hid ((Ext.refl w).alloc (gCs (.slice A l.length c) out));have HB0 := hid (Blk.new w 24 #[.slice A l.length c, .int .i64 out]);clear hlen hv hpn
 go_enter Tryz.func136, Tryz.ntmps136
 go_upto_region 1 with fail
 obtain ⟨p, hp⟩ : ∃ p, p = w.heap.size := ⟨_, rfl⟩;rw [<- hp] at HB0 ⊢;have HPS := hid hp;clear hp;generalize w.alloc (gCs (.slice A l.length c) out) = w0 at *;have c0 := HB0.o.c0;have c1 := HB0.o.c1
 go_wp2_with fail
 refine (HPL.o w0 HX0.o).mono ?_;rintro e w1 ⟨uv, rfl, huv, he1⟩;obtain ⟨AV, cV, rfl⟩ := huv.form;have HV := hid huv;have HX1 := hid (HX0.o.trans he1);have HB1 := hid (HB0.o.ext he1);have HPB := hid (show p < w1.heap.size ∧ w.heap.size <= w1.heap.size from ⟨HB1.o.lt, HX1.o.size⟩);clear c0 c1 huv he1 HB0 HX0
 go_wp2
 go_loopw [3, 13] (fun o iv wr => ∃ k : Nat, k <= PL.length ∧ iv = .int .i64 (k : Int) ∧ OE 144 w1.heap.size wr o ((PL.take k).flatMap AP) ∧ Ext w1 wr) (fun _ iv _ => PL.length - (intOf iv).toNat)
 case atStart => exact ⟨0, Nat.zero_le _, rfl, OE.a2g _ _ _, Ext.refl _⟩
 case round =>
 obtain ⟨k, hk, rfl, ho, hx⟩ := hrel;rename World => wr
 have HO := hid ho;have HX := hid hx;obtain ⟨AO, cO, hvo⟩ := ho.re.form;have HBW := hid (HB1.o.ext hx);have HVW := hid (HV.o.ext hx);have HXW := hid (HX1.o.trans hx);clear ho hx
 by_cases hlt : k < PL.length
 . have r1 : (k : Int) < (PL.length : Int) := by omega
   have HLT := hid hlt;obtain ⟨bB, oB, hAV, hcV⟩ := RE.at_ HVW.o hlt;have HTK := hid (Pl.flatk AP PL hlt);have HPR := hid (show ∀ j, ((PL.take k).flatMap AP ++ (AP PL[k]).take j).length <= 5000 from fun j => Nat.le_trans (Pl.b6B AP PL hlt j) HFB.o.1)
   generalize PL[k] = y at *;have HAY := hid (HAP.o y);have HUY := hid (HUS.o y);generalize AP y = APY at *;generalize US y = USY at *;obtain ⟨y1, y2⟩ := y;obtain ⟨FK, hFK⟩ : ∃ FK : List Pl.Ar, FK = (PL.take k).flatMap AP := ⟨_, rfl⟩;rw [<- hFK] at HO hvo HTK HPR;clear hFK;have HFK := hid (show FK.length <= 5000 from by have := HPR.o 0; rw [List.length_append] at this; omega)
   have k0 : wr.cell? ⟨bB, oB + k * 2, none⟩ = some (.int .i64 y1) := hcV 0 _ rfl;have k1 : wr.cell? ⟨bB, oB + k * 2 + 1, none⟩ = some (.int .i64 y2) := hcV 1 _ rfl;subst hAV;subst hvo;have HXN := hid ((Ext.refl wr).alloc (.cells #[.int .i64 y1, .int .i64 y2] 27));have HYN := hid (Blk.new wr 27 #[.int .i64 y1, .int .i64 y2]);clear hcV hlt hk
   go_upto_region 5 with fail
   clear k0 k1;obtain ⟨q, hq⟩ : ∃ q, q = wr.heap.size := ⟨_, rfl⟩;rw [<- hq] at HYN ⊢;have HQ := hid (show q = wr.heap.size from hq);clear hq;have HO1 := hid (HO.o.ext HXN.o);have HB2 := hid (HBW.o.ext HXN.o);have HX2 := hid (HXW.o.trans HXN.o);have HXE := hid (HX.o.trans HXN.o);generalize wr.alloc (.cells #[.int .i64 y1, .int .i64 y2] 27) = w5 at *;have a0 := HB2.o.c0;have a1 := HB2.o.c1;have d0 := HYN.o.c0;have d1 := HYN.o.c1
   go_wp2_with fail
   refine (HUY.o w5 HX2.o).mono ?_;rintro e w6 ⟨uu, rfl, huu, he6⟩;obtain ⟨AU, cU, rfl⟩ := huu.re.form;have HO6 := hid (HO1.o.ext he6);have HY6 := hid (HYN.o.ext he6);have HX6 := hid (HXE.o.trans he6);have HQW := hid (show ∀ i, (Value.slice AO FK.length cO).ownBlock = some i -> w1.heap.size <= i ∧ i < q from fun i hi => by rw [HQ.o]; exact HO.o.own.lt i hi)
   have HU6 := hid (show ∀ W, ExtQ (fun i => (Value.slice AO FK.length cO).ownBlock = some i) w6 W -> RE W (.slice AU USY.length cU) USY from fun W hW => (OE.extK huu hW (fun i hi e => by
    have h1 := (huu.own.lt i hi).1;have h2 := (HO1.o.own.lt i e).2
    omega)).re)
   clear huu he6 a0 a1 d0 d1 HVW HBW HO HX HO1;obtain ⟨R0, hR0⟩ : ∃ R0 : Nat -> Prop, R0 = fun i => (Value.slice AO FK.length cO).ownBlock = some i := ⟨_, rfl⟩
   have HR0 := hid (show ∀ i, R0 i ↔ ((Value.slice AO FK.length cO).ownBlock = some i) from fun i => by rw [hR0])
   rw [<- hR0] at HU6;clear hR0
   go_wp2
   go_loopw [3, 21] (fun o iv wx => ∃ j : Nat, j <= USY.length ∧ iv = .int .i64 (j : Int) ∧ OE 144 w1.heap.size wx o (FK ++ APY.take j) ∧ ExtQ R0 w6 wx ∧ (∀ q, o.ownBlock = some q -> R0 q ∨ w6.heap.size <= q)) (fun _ iv _ => USY.length - (intOf iv).toNat)
   case atStart => exact ⟨0, Nat.zero_le _, rfl, by simpa using HO6.o, ExtQ.refl _ _, fun q hq => .inl ((HR0.o q).2 hq)⟩
   case round =>
   obtain ⟨j, hj, rfl, ho, hx, hob⟩ := hrel;rename World => wx
   have HO := hid ho;have HX := hid hx;have HOB := hid hob;obtain ⟨AX, cX, hvo⟩ := ho.re.form;have HUW := hid (HU6.o wx hx)
   have HYW := hid (HY6.o.a18 hx (fun e => by
    have h2 := (HQW.o _ ((HR0.o _).1 e)).2
    omega))
   clear ho hx hob
   by_cases hlt : j < USY.length
   . have r1 : (j : Int) < (USY.length : Int) := by omega
     have HJT := hid hlt;obtain ⟨bU, oU, hAU, hcU⟩ := RE.at_ HUW.o hlt;have HMK := hid (show APY.take (j + 1) = APY.take j ++ [Pl.b6A (y1, y2) USY[j]] from by rw [HAY.o, <- List.map_take, <- List.map_take]; exact Pl.mapk _ _ hlt)
     generalize USY[j] = z at *;obtain ⟨⟨z1, z2⟩, z3⟩ := z;obtain ⟨FM, hFM⟩ : ∃ FM : List Pl.Ar, FM = FK ++ APY.take j := ⟨_, rfl⟩;have HFM := hid (show FM.length <= 5000 ∧ FK ++ APY.take (j + 1) = FM ++ [Pl.b6A (y1, y2) ((z1, z2), z3)] from ⟨by rw [hFM]; exact HPR.o j, by rw [HMK.o, hFM, List.append_assoc]⟩)
     rw [<- hFM] at HO hvo;clear hFM HMK;have k0 : wx.cell? ⟨bU, oU + j * 3, none⟩ = some (.int .i64 z1) := hcU 0 _ rfl;have k1 : wx.cell? ⟨bU, oU + j * 3 + 1, none⟩ = some (.int .i64 z2) := hcU 1 _ rfl;have k2 : wx.cell? ⟨bU, oU + j * 3 + 2, none⟩ = some (.int .i64 z3) := hcU 2 _ rfl;subst hAU;subst hvo;have HXZ := hid ((Ext.refl wx).alloc (.cells #[.int .i64 z1, .int .i64 z2, .int .i64 z3] 210));have HZN := hid (Blk.new wx 210 #[.int .i64 z1, .int .i64 z2, .int .i64 z3]);clear hcU hlt hj
     go_upto_region 8 with fail
     clear k0 k1 k2;obtain ⟨qz, hqz⟩ : ∃ q, q = wx.heap.size := ⟨_, rfl⟩;rw [<- hqz] at HZN ⊢;clear hqz;have HO7 := hid (HO.o.ext HXZ.o);have HY7 := hid (HYW.o.ext HXZ.o);have HX7 := hid HXZ.o;generalize wx.alloc (.cells #[.int .i64 z1, .int .i64 z2, .int .i64 z3] 210) = w7 at *;have d0 := HY7.o.c0;have d1 := HY7.o.c1;have b0 := HZN.o.c0;have b1 := HZN.o.c1;have b2 := HZN.o.c2;obtain ⟨st, hst⟩ : ∃ b : Bool, b = (y2 == -1 && z2 != -1) := ⟨_, rfl⟩;have HAU := hid (show Pl.b6A (y1, y2) ((z1, z2), z3) = ((((y1, y2), (z1, z2)), (st, (0 : Int))) : Pl.Ar) from by rw [hst]; rfl)
     have HST := hid hst;have HL1 := hid (RE.lit w7 #[.int .i64 y1, .int .i64 y2, .int .i64 z1, .int .i64 z2, .bool st, .int .i64 0] 144 1 [((((y1, y2), (z1, z2)), (st, (0 : Int))) : Pl.Ar)] rfl (by omega) rfl)
     have HXA := hid ((Ext.refl w7).alloc (.cells #[.int .i64 y1, .int .i64 y2, .int .i64 z1, .int .i64 z2, .bool st, .int .i64 0] 144));have HOL := hid (HO7.o.ext HXA.o);have HXB := hid (HX7.o.trans HXA.o);have hj9 : (j : Int) + 1 <= 1000000 := by have h1 := HJT.o; have h2 := HPR.o USY.length; have h3 := congrArg List.length HAY.o; rw [List.length_append, List.length_take] at h2; rw [List.length_map] at h3; omega
     clear hst
     by_cases t1 : y2 = -1
     . have HT1 := hid t1
       have t2 : (y2 == -1) = true := by simpa using t1
       have t3 : (z2 != -1) = st := by rw [HST.o, t2]; simp
       clear t1
       go_wp2_with (at_builtin; refine a1x rfl a5R _ _ _ rfl w1.heap.size _ _ FM [((((y1, y2), (z1, z2)), (st, (0 : Int))) : Pl.Ar)] rfl HOL.o rfl HL1.o (by have h1 := HFM.o.1; simp; omega) (by have h1 := HFM.o.1; unfold maxLen; simp; omega) (by have h1 := HX6.o.size; have h2 := HX.o.size; have h3 := HXB.o.size; omega) ?_; intro v9 w9 ho9 hg9 hat9)
       obtain ⟨hx9, hob9⟩ := b6a HX.o HOB.o HXB.o hg9 hat9;exact ⟨⟨j + 1, HJT.o, by go_num, by rw [HFM.o.2, HAU.o]; exact ho9, hx9, hob9⟩, by have := HJT.o; simp [intOf]; omega⟩
     have t2 : (y2 == -1) = false := by simpa using t1
     have HSF := hid (show st = false from by rw [HST.o, t2]; rfl)
     clear t1;obtain rfl := HSF.o
     go_wp2_with (at_builtin; refine a1x rfl a5R _ _ _ rfl w1.heap.size _ _ FM [((((y1, y2), (z1, z2)), (false, (0 : Int))) : Pl.Ar)] rfl HOL.o rfl HL1.o (by have h1 := HFM.o.1; simp; omega) (by have h1 := HFM.o.1; unfold maxLen; simp; omega) (by have h1 := HX6.o.size; have h2 := HX.o.size; have h3 := HXB.o.size; omega) ?_; intro v9 w9 ho9 hg9 hat9)
     obtain ⟨hx9, hob9⟩ := b6a HX.o HOB.o HXB.o hg9 hat9;exact ⟨⟨j + 1, HJT.o, by go_num, by rw [HFM.o.2, HAU.o]; exact ho9, hx9, hob9⟩, by have := HJT.o; simp [intOf]; omega⟩
   have r1 : ¬ (j : Int) < (USY.length : Int) := by omega
   obtain rfl : j = USY.length := by omega
   have HFF := hid (show FK ++ APY.take USY.length = (PL.take (k + 1)).flatMap AP from by
    rw [HTK.o, List.take_of_length_le (by rw [HAY.o, List.length_map]; exact Nat.le_refl _)])
   have HF := hid (show OE 144 w1.heap.size wx _ ((PL.take (k + 1)).flatMap AP) from by rw [<- HFF.o]; exact HO.o)
   have HG := hid (show Ext w1 wx from HX6.o.a3Z HX.o (fun i hi => (HQW.o i ((HR0.o i).1 hi)).1))
   have hk9 : (k : Int) + 1 <= 1000000 := by have h1 := HLT.o; have h2 := HPN.o; omega
   clear hj hlt hvo
   go_wp2
   exact ⟨⟨k + 1, HLT.o, by go_num, HF.o, HG.o⟩, by have := HLT.o; simp [intOf]; omega⟩
 have r1 : ¬ (k : Int) < (PL.length : Int) := by omega
 obtain rfl : k = PL.length := by omega
 rw [List.take_length] at HO hvo;obtain ⟨FK, hFK⟩ : ∃ FK : List Pl.Ar, FK = PL.flatMap AP := ⟨_, rfl⟩;rw [<- hFK] at HO hvo HFB HA0;subst hvo;have a0 := HBW.o.c0;have a1 := HBW.o.c1;clear hlt hk hFK
 go_wp2_with fail
 refine (HLP.o wr HXW.o).mono ?_;rintro e w6 ⟨rfl, he6⟩;have HB6 := hid (HBW.o.ext he6);have HX6 := hid (HX.o.trans he6);have HO6 := hid (HO.o.ext he6);have HXW6 := hid (HXW.o.trans he6);clear he6 a0 a1 HO HX HBW HVW HXW
 cases LB with
 | false =>
  have HFN := hid (show FK.length <= 5000 ∧ FK = A0 from ⟨HFB.o.1, by rw [HA0.o, HRE.o]; simp⟩)
  obtain ⟨FN, hFN⟩ : ∃ FN, FN = FK := ⟨_, rfl⟩;rw [<- hFN] at HFN HO6 ⊢;have HON := hid HO6.o;have HXN := hid HX6.o;clear hFN HO6 HX6
  go_wp2_with fail
  refine (a3k _ FN w1.heap.size _ HON.o (by have := HFN.o.1; omega)).mono ?_
  rintro e w8 ⟨rfl, s, hsp, hss, hos, hgs⟩;have HSP := hid (show s.Perm A0 from by rw [<- HFN.o.2]; exact hsp)
  have HSS := hid (b2q hss);have HSL := hid (show s.length <= 5000 ∧ FN.length = s.length from ⟨by rw [hsp.length_eq]; exact HFN.o.1, hsp.length_eq.symm⟩)
  have HOS := hid hos;have HXS := hid (HXN.o.grown hgs fun i hi => (HON.o.own.lt i hi).1)
  clear hsp hss hos hgs
  go_wp2_with fail
  refine (a5A _ s w1.heap.size _ HOS.o (by have := HSL.o.1; omega)).mono ?_
  rintro e w9 ⟨vr, rfl, hor, hgr⟩;have HOR := hid (OE.low hor HPB.o.2);have HXR := hid (HX1.o.trans (HXS.o.grown hgr fun i hi => (HOS.o.own.lt i hi).1))
  clear hor hgr
  go_wp2
  go_ret
  exact ⟨_, s, rfl, HSP.o, HSS.o, HOR.o, HXR.o⟩
 | true =>
 have HLB := hid (HRN.o rfl);have a0 := HB6.o.c0;have a1 := HB6.o.c1
 go_wp2_with fail
 refine (HLB.o w6 HXW6.o).mono ?_;rintro e w7 ⟨ur, rfl, hur, he7⟩;have HO7 := hid (HO6.o.ext he7);have HX7 := hid (HX6.o.trans he7);have HUR := hid hur.re;obtain ⟨AR, cR, rfl⟩ := hur.re.form;clear hur he7 a0 a1
 go_wp2_with (at_builtin; refine a1x rfl a5R _ _ _ rfl w1.heap.size _ _ FK RL rfl HO7.o rfl HUR.o (by have h1 := HFB.o; omega) (by have h1 := HFB.o; unfold maxLen; omega) HX7.o.size ?_; intro vn wn hon hgn hatn)
 have HXN := hid (HX7.o.grown hgn fun i hi => (HO7.o.own.lt i hi).1)
 have HFN := hid (show (FK ++ RL).length <= 5000 ∧ FK ++ RL = A0 from ⟨by rw [List.length_append]; exact HFB.o.2.2, by rw [HA0.o]⟩)
 generalize FK ++ RL = FN at *;have HON := hid hon;obtain ⟨AN, cN, rfl⟩ := hon.re.form;clear hon hgn hatn
 go_wp2_with fail
 refine (a3k _ FN w1.heap.size _ HON.o (by have := HFN.o.1; omega)).mono ?_
 rintro e w8 ⟨rfl, s, hsp, hss, hos, hgs⟩;have HSP := hid (show s.Perm A0 from by rw [<- HFN.o.2]; exact hsp)
 have HSS := hid (b2q hss);have HSL := hid (show s.length <= 5000 ∧ FN.length = s.length from ⟨by rw [hsp.length_eq]; exact HFN.o.1, hsp.length_eq.symm⟩)
 have HOS := hid hos;have HXS := hid (HXN.o.grown hgs fun i hi => (HON.o.own.lt i hi).1)
 clear hsp hss hos hgs
 go_wp2_with fail
 refine (a5A _ s w1.heap.size _ HOS.o (by have := HSL.o.1; omega)).mono ?_
 rintro e w9 ⟨vr, rfl, hor, hgr⟩;have HOR := hid (OE.low hor HPB.o.2);have HXR := hid (HX1.o.trans (HXS.o.grown hgr fun i hi => (HOS.o.own.lt i hi).1))
 clear hor hgr
 go_wp2
 go_ret
 exact ⟨_, s, rfl, HSP.o, HSS.o, HOR.o, HXR.o⟩
end Go.Proofs.YtdkejfjcchlnpaaGreat
namespace Go.Ox.Gr
def tot {α : Type} (f : α -> Nat) (l : List α) : Nat := (l.map f).sum
theorem a90 {α : Type} (f : α -> Nat) (l r : List α) : tot f (l ++ r) = tot f l + tot f r := by unfold tot; rw [List.map_append, List.sum_append]
theorem b2r {α : Type} (f : α -> Nat) (c : Nat) : ∀ (l : List α), (∀ x ∈ l, f x <= c) -> tot f l <= l.length * c
 | [], _ => by simp [tot]
 | x :: l, h => by
  have h1 := b2r f c l fun y hy => h y (List.mem_cons_of_mem _ hy)
  have h2 := h x List.mem_cons_self;unfold tot at *;rw [List.map_cons, List.sum_cons, List.length_cons, Nat.add_mul];omega
theorem a2Y {α : Type} {f g : α -> Nat} : ∀ {l : List α}, (∀ x ∈ l, f x = g x) -> tot f l = tot g l
 | [], _ => rfl
 | x :: l, h => by
  have h1 := a2Y fun y hy => h y (List.mem_cons_of_mem _ hy)
  unfold tot at *;rw [List.map_cons, List.map_cons, List.sum_cons, List.sum_cons, h x List.mem_cons_self, h1]
theorem a92 {α : Type} (f g : α -> Nat) : ∀ (l : List α), tot (fun x => f x + g x) l = tot f l + tot g l
 | [] => rfl
 | x :: l => by
  have h1 := a92 f g l;unfold tot at *;rw [List.map_cons, List.map_cons, List.map_cons, List.sum_cons, List.sum_cons, List.sum_cons, h1];omega
def sm (N : Nat) (g : Nat -> Nat) : Nat := tot g (List.range N)
theorem sm_0 (g : Nat -> Nat) : sm 0 g = 0 := rfl
theorem sm_s (N : Nat) (g : Nat -> Nat) : sm (N + 1) g = sm N g + g N := by
 unfold sm;rw [List.range_succ, a90];simp [tot]
theorem sm_f (N : Nat) (g : Nat -> Nat) : sm (N + 1) g = g 0 + sm N (fun k => g (k + 1)) := by
 unfold sm tot;rw [List.range_succ_eq_map, List.map_cons, List.sum_cons, List.map_map];rfl
theorem sm_add (N : Nat) (f g : Nat -> Nat) : sm N (fun k => f k + g k) = sm N f + sm N g := a92 f g _
theorem a3P {N : Nat} {f g : Nat -> Nat} (h : ∀ k, k < N -> f k = g k) : sm N f = sm N g := a2Y fun k hk => h k (List.mem_range.1 hk)
theorem b5v (x : Int) : ∀ (N : Nat), 0 <= x -> sm N (fun k => if x = (k : Int) then 1 else 0) = if x < (N : Int) then 1 else 0
 | 0, h => by rw [sm_0, if_neg (by omega)]
 | N + 1, h => by
  rw [sm_s, b5v x N h]
  by_cases h1 : x < (N : Int)
  . rw [if_pos h1, if_neg (by omega), if_pos (by omega)]
  . rw [if_neg h1]
    by_cases h2 : x = (N : Int)
    . rw [if_pos h2, if_pos (by omega)]
    . rw [if_neg h2, if_neg (by omega)]
def cnt (i : Int) (l : List Int) : Nat := tot (fun x => if x = i then 1 else 0) l
theorem b2s (i : Int) (l r : List Int) : cnt i (l ++ r) = cnt i l + cnt i r := a90 _ _ _
theorem a7c (i x : Int) (l : List Int) : cnt i (x :: l) = (if x = i then 1 else 0) + cnt i l := by unfold cnt tot; rw [List.map_cons, List.sum_cons]
theorem a94 (N : Nat) : ∀ (l : List Int), (∀ x ∈ l, 0 <= x ∧ x < (N : Int)) -> sm N (fun k => cnt (k : Int) l) = l.length
 | [], _ => by
  have : sm N (fun k => cnt (k : Int) []) = sm N fun _ => 0 := rfl
  rw [this];unfold sm;have := b2r (fun _ : Nat => 0) 0 (List.range N) (fun _ _ => Nat.le_refl _)
  simp at this ⊢;exact this
 | x :: l, h => by
  have hx := h x List.mem_cons_self
  have e : sm N (fun k => cnt (k : Int) (x :: l)) = sm N (fun k => if x = (k : Int) then 1 else 0) + sm N fun k => cnt (k : Int) l := by
   rw [<- sm_add];exact a3P fun k _ => a7c _ _ _
  rw [e, b5v x N hx.1, if_pos hx.2, a94 N l fun y hy => h y (List.mem_cons_of_mem _ hy), List.length_cons, Nat.add_comm]
theorem a95 (name : Int) (p : Int × Int) : ∀ (ins : List Int) (i : Nat), ((ins.zipIdx i).filterMap fun x => if x.1 = name then some (p, (x.2 : Int)) else none).length = cnt name ins
 | [], _ => rfl
 | x :: ins, i => by
  rw [List.zipIdx_cons, List.filterMap_cons, a7c]
  by_cases h : x = name
  . simp only [if_pos h, List.length_cons, a95 name p ins (i + 1)]; omega
  . simp only [if_neg h, a95 name p ins (i + 1)]; omega
theorem a4n (name : Int) (f : Nat -> Int × Int) : ∀ (l : List Nd) (i : Nat), (a1g name f l i).length = cnt name (l.flatMap Nd.ins)
 | [], _ => rfl
 | n :: l, i => by
  unfold a1g;rw [List.length_append, List.flatMap_cons, b2s, a4n name f l (i + 1)]
  congr 1
  exact a95 name (f i) n.ins 0
def outs (b : List Nd) : List Int := (b.filter fun n => decide (n.op = 11)).map Nd.a
theorem b5w {n : Nd} (b : List Nd) (h : n.op = 11) : outs (n :: b) = n.a :: outs b := by
 unfold outs;rw [List.filter_cons, if_pos (by simpa using h)]
 rfl
theorem b5x {n : Nd} (b : List Nd) (h : n.op ≠ 11) : outs (n :: b) = outs b := by
 unfold outs;rw [List.filter_cons, if_neg (by simpa using h)]
theorem b2t (name lp : Int) : ∀ (b : List Nd) (i : Nat), ((b.zipIdx i).filterMap fun x => if x.1.op = 11 ∧ x.1.a = name then some ((lp, (x.2 : Int)), (0 : Int)) else none).length = cnt name (outs b)
 | [], _ => rfl
 | n :: b, i => by
  have h := b2t name lp b (i + 1);rw [List.zipIdx_cons, List.filterMap_cons]
  by_cases h1 : n.op = 11
  . rw [b5w b h1, a7c]
    by_cases h2 : n.a = name
    . simp only [if_pos (And.intro h1 h2), if_pos h2, List.length_cons, h]; omega
    . simp only [if_neg (fun q : n.op = 11 ∧ n.a = name => h2 q.2), if_neg h2, h]; omega
  . rw [b5x b h1]
    simp only [if_neg (fun q : n.op = 11 ∧ n.a = name => h1 q.1), h]
def named (l : List Nd) : List Int := l.flatMap Nd.ins ++ a0D (fun _ n => outs n.body) l 0
theorem a8b {l : List Nd} {out : Int} (h : gOk (l, out) = true) : a0D (fun _ n => outs n.body) l 0 = if 0 <= a05 l then outs (l[(a05 l).toNat]?.getD default).body else [] := by
 rw [a3L (a1d h).2.2.2.2.2 fun i n hn h9 => by rw [a5z h hn h9]; rfl]
 unfold a05;rw [Nat.sub_zero]
theorem b2u {l : List Nd} {out : Int} (h : gOk (l, out) = true) (i : Int) : (a5S l i).length = cnt i (named l) := by
 unfold a5S named a0N;rw [List.length_append, b2s, a4n, a8b h]
 congr 1
 by_cases h0 : 0 <= a05 l
 . rw [if_pos h0, if_pos h0]
   exact b2t i (a05 l) _ 0
 rw [if_neg h0, if_neg h0]; rfl
theorem b2v (f : Pl -> Nat) (g : Nat -> Nat) (hh : Nd -> Nat -> Nat) : ∀ (l : List Nd) (i : Nat), (∀ (k : Nat) (hk : k < l.length), f (((i + k : Nat) : Int), -1) = g (i + k) ∧ ∀ (j : Nat), j < l[k].body.length -> f (((i + k : Nat) : Int), (j : Int)) = hh l[k] j) ->
 tot f (a0i l i) = sm l.length (fun k => g (i + k)) + tot (fun n => sm n.body.length (hh n)) l
 | [], _, _ => rfl
 | n :: l, i, h => by
  have h0 := h 0 (by simp)
  rw [Nat.add_zero] at h0;have h0a : f ((i : Int), -1) = g i := h0.1;have h0b : ∀ (j : Nat), j < n.body.length -> f ((i : Int), (j : Int)) = hh n j := h0.2
  have ih := b2v f g hh l (i + 1) fun k hk => by
   have := h (k + 1) (by simpa using hk)
   rw [show i + (k + 1) = i + 1 + k by omega] at this
   exact this
  have e1 : tot f (plN i n.body.length) = g i + sm n.body.length (hh n) := by
   have e2 : tot f (plN i n.body.length) = f ((i : Int), -1) + sm n.body.length (fun (k : Nat) => f ((i : Int), (k : Int))) := by
    unfold plN sm tot;rw [List.map_cons, List.sum_cons, List.map_map];rfl
   rw [e2, h0a, a3P h0b]
  have e3 : tot (fun n => sm n.body.length (hh n)) (n :: l) = sm n.body.length (hh n) + tot (fun n => sm n.body.length (hh n)) l := by unfold tot; rw [List.map_cons, List.sum_cons]
  have e4 : sm (l.length + 1) (fun k => g (i + k)) = g i + sm l.length (fun k => g (i + 1 + k)) := by
   rw [sm_f]
   congr 1
   exact a3P fun k _ => by rw [show i + (k + 1) = i + 1 + k by omega]
  unfold a0i;rw [a90, e1, ih, e3, List.length_cons, e4];omega
theorem a96 (F : Nd -> Nat) : ∀ (b : List Nd), sm b.length (fun j => F (b[j]?.getD default)) = tot F b
 | [] => rfl
 | n :: b => by
  have ih := a96 F b;rw [List.length_cons, sm_f];unfold tot at *;rw [List.map_cons, List.sum_cons, <- ih];rfl
theorem b2w {α : Type} (F : Nd -> List α) : ∀ (l : List Nd), (l.flatMap F).length = tot (fun n => (F n).length) l
 | [] => rfl
 | n :: l => by
  have ih := b2w F l;unfold tot at *;rw [List.flatMap_cons, List.length_append, ih, List.map_cons, List.sum_cons]
theorem b5y {α : Type} (F : Nd -> List α) : ∀ (l : List Nd) (i : Nat), (a0D (fun _ n => F n) l i).length = tot (fun n => (F n).length) l
 | [], _ => rfl
 | n :: l, i => by
  have ih := b5y F l (i + 1)
  show (F n ++ a0D (fun _ n => F n) l (i + 1)).length = _
  unfold tot at *;rw [List.length_append, ih, List.map_cons, List.sum_cons]
def a2a (n : Nd) : Nat := n.ins.length + (if n.op = 11 then 1 else 0)
theorem a8c : ∀ (b : List Nd), tot a2a b = (b.flatMap Nd.ins).length + (outs b).length
 | [] => rfl
 | n :: b => by
  have ih := a8c b;have e : tot a2a (n :: b) = a2a n + tot a2a b := by unfold tot; rw [List.map_cons, List.sum_cons]
  rw [e, ih, List.flatMap_cons, List.length_append];unfold a2a
  by_cases h : n.op = 11
  . rw [if_pos h, b5w b h, List.length_cons]; omega
  . rw [if_neg h, b5x b h]; omega
theorem b2x {l : List Nd} {out : Int} (h : gOk (l, out) = true) {k : Nat} (hk : k < l.length) : gUs (l, out) ((k : Int), -1) = a5S l (k : Int) := by
 have e : gNd (l, out) ((k : Int), -1) = some l[k] := by unfold gNd; rw [if_pos h]; exact a1M hk
 rw [<- b2o h];unfold gUs;rw [e];rfl
theorem b5z {l : List Nd} {out : Int} (h : gOk (l, out) = true) {k j : Nat} (hk : k < l.length) (hj : j < l[k].body.length) : gUs (l, out) ((k : Int), (j : Int)) = a0N (j : Int) (fun m => ((k : Int), (m : Int))) l[k].body := by
 have e : gNd (l, out) ((k : Int), (j : Int)) = some l[k].body[j] := by unfold gNd; rw [if_pos h]; exact a2n hk hj
 rw [<- b6x h hk hj];unfold gUs;rw [e];have hn : ¬ ((j : Int) < 0) := by omega
 exact (if_pos rfl).trans (if_neg hn)
theorem a9P {l : List Nd} {x : Int} (h : x ∈ l.flatMap Nd.ins) : ∃ (k : Nat) (hk : k < l.length), x ∈ l[k].ins := by
 obtain ⟨n, hn, hx⟩ := List.mem_flatMap.1 h;obtain ⟨k, hk, rfl⟩ := List.getElem_of_mem hn;exact ⟨k, hk, hx⟩
theorem b2y {b : List Nd} {k : Nat} (h : a2k b k = true) {x : Int} (hx : x ∈ outs b) : 0 <= x ∧ x < (k : Int) := by
 unfold outs at hx;obtain ⟨n, hn, rfl⟩ := List.mem_map.1 hx;obtain ⟨hn, ho⟩ := List.mem_filter.1 hn;obtain ⟨j, hj, rfl⟩ := List.getElem_of_mem hn;have h11 : b[j].op = 11 := by simpa using ho
 have := ((a5x h).2.2 j hj).2.2.1;unfold a2J at this;rw [if_neg (by omega), if_neg (by omega), if_neg (by omega), if_pos h11] at this
 simp only [Bool.and_eq_true, decide_eq_true_eq] at this;exact this.2
theorem b2z {g : G} : tot (fun p => (gUs g p).length) (gPl g) = tot (fun p => a2a ((gNd g p).getD default)) (gPl g) := by
 obtain ⟨l, out⟩ := g
 cases hok : gOk (l, out) with
 | false =>
  have : gPl (l, out) = [] := by unfold gPl; rw [if_neg (by rw [hok]; simp)]
  rw [this]; rfl
 | true =>
 have hpl : gPl (l, out) = a0i l 0 := by unfold gPl; rw [if_pos hok]; rfl
 have hnd : ∀ p, gNd (l, out) p = nodeAt l p := fun p => by unfold gNd; rw [if_pos hok]
 rw [hpl]
 have e1 : tot (fun p => (gUs (l, out) p).length) (a0i l 0) = sm l.length (fun k => cnt ((0 + k : Nat) : Int) (named l)) + tot (fun n => sm n.body.length (fun j => cnt (j : Int) (n.body.flatMap Nd.ins))) l := by
  refine b2v _ (fun k => cnt (k : Int) (named l)) (fun n j => cnt (j : Int) (n.body.flatMap Nd.ins)) l 0 fun k hk => ⟨?_, fun j hj => ?_⟩
  . rw [Nat.zero_add]
    show (gUs (l, out) ((k : Int), -1)).length = _;rw [b2x hok hk, b2u hok]
  rw [Nat.zero_add]
  show (gUs (l, out) ((k : Int), (j : Int))).length = _;rw [b5z hok hk hj];exact a4n _ _ _ 0
 have e2 : tot (fun p => a2a ((gNd (l, out) p).getD default)) (a0i l 0) = sm l.length (fun k => a2a (l[0 + k]?.getD default)) + tot (fun n => sm n.body.length (fun j => a2a (n.body[j]?.getD default))) l := by
  refine b2v _ (fun k => a2a (l[k]?.getD default)) (fun n j => a2a (n.body[j]?.getD default)) l 0 fun k hk => ⟨?_, fun j hj => ?_⟩
  . rw [Nat.zero_add, hnd, a1M hk, List.getElem?_eq_getElem hk]
  rw [Nat.zero_add, hnd, a2n hk hj, List.getElem?_eq_getElem hj]
 have e3 : sm l.length (fun k => cnt ((0 + k : Nat) : Int) (named l)) = (named l).length := by
  rw [<- a94 l.length (named l)]
  . exact a3P fun k _ => by rw [Nat.zero_add]
  intro x hx;unfold named at hx
  rcases List.mem_append.1 hx with hx | hx
  . obtain ⟨k, hk, hx⟩ := a9P hx
    have := (a4i (a1X hok hk).1).2.2.2 x hx;omega
  rw [a8b hok] at hx
  by_cases h0 : 0 <= a05 l
  . rw [if_pos h0] at hx
    have hr := a1w l;have hk : (a05 l).toNat < l.length := by omega
    rw [List.getElem?_eq_getElem hk, Option.getD_some] at hx
    rcases (a1X hok hk).2.2.2 with ⟨_, hb⟩ | ⟨_, hb⟩
    . have := b2y hb hx
      omega
    rw [hb] at hx; simp [outs] at hx
  rw [if_neg h0] at hx; simp at hx
 have e4 : sm l.length (fun k => a2a (l[0 + k]?.getD default)) = tot a2a l := by
  rw [<- a96 a2a l];exact a3P fun k _ => by rw [Nat.zero_add]
 have e5 : tot (fun n => sm n.body.length (fun j => a2a (n.body[j]?.getD default))) l = tot (fun n => (n.body.flatMap Nd.ins).length) l + tot (fun n => (outs n.body).length) l := by
  rw [<- a92];exact a2Y fun n _ => by rw [a96 a2a, a8c]
 have e6 : tot (fun n => sm n.body.length (fun j => cnt (j : Int) (n.body.flatMap Nd.ins))) l = tot (fun n => (n.body.flatMap Nd.ins).length) l := by
  refine a2Y fun n hn => a94 _ _ fun x hx => ?_
  obtain ⟨k, hk, rfl⟩ := List.getElem_of_mem hn
  rcases (a1X hok hk).2.2.2 with ⟨_, hb⟩ | ⟨_, hb⟩
  . obtain ⟨j, hj, hx⟩ := a9P hx
    have := (a4i ((a5x hb).2.2 j hj).1).2.2.2 x hx;omega
  rw [hb] at hx; simp at hx
 have e7 : tot a2a l = (l.flatMap Nd.ins).length := by
  rw [b2w];refine a2Y fun n hn => ?_
  obtain ⟨k, hk, rfl⟩ := List.getElem_of_mem hn;unfold a2a;rw [if_neg (b2n hok hk), Nat.add_zero]
 have e8 : (named l).length = (l.flatMap Nd.ins).length + tot (fun n => (outs n.body).length) l := by
  unfold named;rw [List.length_append, b5y]
 rw [e1, e2, e3, e4, e5, e6, e7, e8];omega
def plt (p q : Pl) : Prop := p.1 < q.1 ∨ (p.1 = q.1 ∧ p.2 < q.2)
theorem b0T (i n : Nat) : (plN i n).Pairwise plt := by
 unfold plN;refine List.pairwise_cons.2 ⟨fun q hq => ?_, ?_⟩
 . obtain ⟨k, hk, rfl⟩ := List.mem_map.1 hq
   exact .inr ⟨rfl, by show (-1 : Int) < (k : Int); omega⟩
 rw [List.pairwise_map];exact List.pairwise_lt_range.imp fun h => .inr ⟨rfl, by show ((_ : Nat) : Int) < ((_ : Nat) : Int); omega⟩
theorem a3Q : ∀ (l : List Nd) (i : Nat), (a0i l i).Pairwise plt
 | [], _ => List.Pairwise.nil
 | n :: l, i => by
  unfold a0i;refine List.pairwise_append.2 ⟨b0T _ _, a3Q l (i + 1), fun p hp q hq => .inl ?_⟩
  obtain ⟨k, hk, h1, -⟩ := a0F.1 hq
  have h2 : p.1 = (i : Int) := by
   unfold plN at hp
   rcases List.mem_cons.1 hp with rfl | hp
   . rfl
   . obtain ⟨k, hk, rfl⟩ := List.mem_map.1 hp; rfl
  omega
theorem b6D {name : Int} {p : Int × Int} {x : (Int × Int) × Int} : ∀ {ins : List Int} {i : Nat}, x ∈ ((ins.zipIdx i).filterMap fun y => if y.1 = name then some (p, (y.2 : Int)) else none) -> x.1 = p ∧ name ∈ ins := by
 intro ins i h;obtain ⟨y, hy, he⟩ := List.mem_filterMap.1 h
 by_cases hn : y.1 = name
 . rw [if_pos hn] at he
   injection he with he
   subst he;obtain ⟨h1, h2, h3⟩ := List.mem_zipIdx hy;exact ⟨rfl, by rw [<- hn, h3]; exact List.getElem_mem _⟩
 rw [if_neg hn] at he; cases he
theorem a4o {name : Int} {f : Nat -> Int × Int} {x : (Int × Int) × Int} : ∀ {l : List Nd} {i : Nat}, x ∈ a1g name f l i -> ∃ (k : Nat) (hk : k < l.length), x.1 = f (i + k) ∧ name ∈ l[k].ins
 | [], _, h => by simp [a1g] at h
 | n :: l, i, h => by
  unfold a1g at h
  rcases List.mem_append.1 h with h | h
  . exact ⟨0, by simp, b6D h⟩
  . obtain ⟨k, hk, h1, h2⟩ := a4o h
    exact ⟨k + 1, by simpa using hk, by rw [h1]; congr 1; omega, h2⟩
theorem b6E {name lp : Int} {x : (Int × Int) × Int} {b : List Nd} (h : x ∈ ouN name lp b) : ∃ (k : Nat) (hk : k < b.length), x.1 = (lp, (k : Int)) ∧ name ∈ outs b := by
 unfold ouN at h;obtain ⟨y, hy, he⟩ := List.mem_filterMap.1 h
 by_cases hn : y.1.op = 11 ∧ y.1.a = name
 . rw [if_pos hn] at he
   injection he with he
   subst he;obtain ⟨h1, h2⟩ := List.mem_zipIdx' hy;refine ⟨y.2, h1, rfl, ?_⟩;unfold outs;exact List.mem_map.2 ⟨y.1, List.mem_filter.2 ⟨h2 ▸ List.getElem_mem _, by simpa using hn.1⟩, hn.2⟩
 rw [if_neg hn] at he; cases he
theorem b6F (g : G) (p : Pl) : (gUs g p).length <= 1000000 := by
 obtain ⟨l, out⟩ := g
 cases hn : gNd (l, out) p with
 | none => unfold gUs; rw [hn]; simp
 | some n =>
 have hok : gOk (l, out) = true := by
  cases h : gOk (l, out) with
  | true => rfl
  | false => unfold gNd at hn; rw [if_neg (by rw [h]; simp)] at hn; cases hn
 have hn2 : nodeAt l p = some n := by unfold gNd at hn; rw [if_pos hok] at hn; exact hn
 have hu : gUs (l, out) p = if p.2 < 0 then ru true p.1 l else ru false p.2 l := by unfold gUs; rw [hn]; rfl
 have hk := a88 hok;rw [hu];obtain ⟨i, hi, h1, h2⟩ := a1z hn2
 rcases h2 with ⟨h2, -⟩ | ⟨j, hj, h2, -⟩
 . rw [if_pos (by omega), b2o hok]
   unfold a5S;have a1 := a3d p.1 (fun k => ((k : Int), -1)) l l.length (fun n hn => (hk.2 n hn).2.1) hk.1
   rw [List.take_length] at a1;rw [List.length_append]
   split
   . rename_i h0
     have a2 := b26 p.1 (a05 l) (l[(a05 l).toNat]?.getD default).body
     have a3 : (l[(a05 l).toNat]?.getD default).body.length <= 100 := by
      cases hx : l[(a05 l).toNat]? with
      | none => decide
      | some x => exact (hk.2 x (List.mem_of_getElem? hx)).1
     omega
   simp only [List.length_nil]; omega
 rw [if_neg (by omega), h2, b6x hok hi hj]
 have a1 := a3d (j : Int) (fun k => ((i : Int), (k : Int))) l[i].body l[i].body.length (fun n hn => (hk.2 _ (List.getElem_mem hi)).2.2 n hn) (hk.2 _ (List.getElem_mem hi)).1
 rw [List.take_length] at a1;omega
theorem b6G {g : G} {p : Pl} : a2a ((gNd g p).getD default) <= 100 := by
 obtain ⟨l, out⟩ := g;unfold gNd a2a
 by_cases hok : gOk (l, out) = true
 . rw [if_pos hok]
   have hk := a88 hok
   cases hn : nodeAt l p with
   | none => decide
   | some n =>
   have hf := (a8V hok).1;obtain ⟨i, hi, -, h2⟩ := a1z hn
   rcases h2 with ⟨-, rfl⟩ | ⟨j, hj, -, rfl⟩
   . have := (hf.2 _ (List.getElem_mem hi)).1.2.2.2.2.1
     rw [Option.getD_some]; split <;> omega
   have := (((hf.2 _ (List.getElem_mem hi)).2).2 _ (List.getElem_mem hj)).1.2.2.2.2.1;rw [Option.getD_some]; split <;> omega
 rw [if_neg hok]; decide
end Go.Ox.Gr
namespace Go.Proofs.YtdkejfjcchlnpaaGreat
open Go.RowKit Go.Ox Go.Ox.Gr
end Go.Proofs.YtdkejfjcchlnpaaGreat
