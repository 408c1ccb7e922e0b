/-
  Fr8, Fr11, Fr10, FrPut, packed: what the claim needs of them.
-/
import Derived.Test.YtdkejfjcchlnpaaGreatFt35
set_option maxHeartbeats 40000000
open Go.Lib (hid)
set_option linter.unusedSimpArgs false
set_option linter.unusedVariables false
set_option maxRecDepth 100000
namespace Go.Proofs.YtdkejfjcchlnpaaGreat
open Go.RowKit Go.Ox Go.Ox.Gr Go.Shelf Mo Ct
theorem keysIs {s l L : List Cnt.K} (hp : s.Perm l) (hs : s.Pairwise fun a b => ¬ Cnt.klt b a) (hn : l.Nodup) (hg : L.Pairwise Cnt.klt) (h : ∀ x, x ∈ l ↔ x ∈ L) : s = L := by
 refine Fr.keysK ?_ hg fun x => by rw [hp.mem_iff, h]
 have hn2 : s.Nodup := hp.nodup_iff.2 hn;rw [List.nodup_iff_pairwise_ne] at hn2;refine (hs.and hn2).imp fun {a b} hh => ?_
 rcases Cnt.a1Y a b with q | q | q
 . exact q
 . exact absurd q hh.2
 exact absurd q hh.1
theorem b1a {L : List Cnt.K} (h : L.Pairwise Cnt.klt) : L.Nodup := by
 rw [List.nodup_iff_pairwise_ne];refine h.imp ?_;intro a b q e;subst e;exact Cnt.a0x _ q
theorem a1F {α : Type} [Enc α] {b : Nat} {w w' : World} {v : Value} {l : List α} (h : RE w v l) (he : ExtM b w w') : RE w' v l := Rd.a1c h he
theorem b6Y (w : World) (x1 x2 x3 x4 : Int) : RE ((w.alloc (.cells #[.int .i64 x1, .int .i64 x2, .int .i64 x3, .int .i64 x4] 66)).alloc (.cells #[.int .i64 x1, .int .i64 x2, .int .i64 x3, .int .i64 x4] 66)) (.slice (some ⟨w.heap.size + 1, 0, none⟩) 1 1) [((x1, x2), x3, x4)] := by
 have h := RE.lit (w.alloc (.cells #[.int .i64 x1, .int .i64 x2, .int .i64 x3, .int .i64 x4] 66)) #[.int .i64 x1, .int .i64 x2, .int .i64 x3, .int .i64 x4] 66 1 [((x1, x2), x3, x4)] rfl (by omega) rfl
 rwa [show (w.alloc (.cells #[.int .i64 x1, .int .i64 x2, .int .i64 x3, .int .i64 x4] 66)).heap.size = w.heap.size + 1 by simp] at h
theorem b3i (w : World) (x1 x2 x3 x4 : Int) : Ext w (w.alloc (.cells #[.int .i64 x1, .int .i64 x2, .int .i64 x3, .int .i64 x4] 66)) ∧
 (w.alloc (.cells #[.int .i64 x1, .int .i64 x2, .int .i64 x3, .int .i64 x4] 66)).cell? ⟨w.heap.size, 0, none⟩ = some (.int .i64 x1) ∧ (w.alloc (.cells #[.int .i64 x1, .int .i64 x2, .int .i64 x3, .int .i64 x4] 66)).cell? ⟨w.heap.size, 1, none⟩ = some (.int .i64 x2) ∧
 (w.alloc (.cells #[.int .i64 x1, .int .i64 x2, .int .i64 x3, .int .i64 x4] 66)).cell? ⟨w.heap.size, 2, none⟩ = some (.int .i64 x3) ∧ (w.alloc (.cells #[.int .i64 x1, .int .i64 x2, .int .i64 x3, .int .i64 x4] 66)).cell? ⟨w.heap.size, 3, none⟩ = some (.int .i64 x4) := by
 have h := Blk.new w 66 #[.int .i64 x1, .int .i64 x2, .int .i64 x3, .int .i64 x4];exact ⟨(Ext.refl _).alloc _, h.cell 0, h.cell 1, h.cell 2, h.cell 3⟩
theorem NM.del {w : World} {p b d : Nat} {v : Value} {g : G} {L : List Cnt.K} (h : NM w p b d v g L) (k : Cnt.K) :
 ∃ w', (∀ (T' ty : TypeId), (Builtin.delete_ #[117, T'] ty #[.map (some b), kV k]).run Tryz.prog w = .ok (.tuple #[]) w') ∧ ExtM b w w' ∧ NM w' p b d v g (L.filter fun x => !decide (x = k)) := by
 obtain ⟨l, h1, h2, h3⟩ := h.map;obtain ⟨w', h4, h5, h6⟩ := h1.b1u keyA Tryz.underlying117 k;refine ⟨w', h4, h6, h.box.a1c h6 h.ne, h.nod.a1c h6, h.ne, ⟨b1h k l, h5, fun x hx => h2 x ((a56 h1.nodup x).1 hx).1, fun x => ?_⟩, h.asc.filter _⟩
 rw [List.mem_filter, <- h3, List.mem_map, List.mem_map];constructor
 . rintro ⟨y, hy, rfl⟩
   obtain ⟨q1, q2⟩ := (a56 h1.nodup y).1 hy;exact ⟨⟨y, q1, rfl⟩, by simpa using q2⟩
 rintro ⟨⟨y, hy, rfl⟩, q⟩;exact ⟨y, (a56 h1.nodup y).2 ⟨hy, by simpa using q⟩, rfl⟩
theorem keepU (f : Cnt.K -> Bool) : ∀ l : List Cnt.K, a2t (fun (_ : Unit) x => (f x, ())) () l = l.filter fun x => !f x
 | [] => rfl
 | x :: l => by
  have := keepU f l;simp only [a2t, List.filter_cons]
  cases f x <;> simp [this]
theorem a0L (w : World) (p b d : Nat) (v : Value) (g : G) (L : List Cnt.K) (h : NM w p b d v g L) (hl : L.length <= 1000000) :
 Calls Tryz.prog 33 #[.pointer (some ⟨p, 0, none⟩)] w fun e w' => ∃ u, e = .returned u ∧ OE 66 w.heap.size w' u L ∧ Ext w w' := by
 have HM := hid (a5J w p b d v g L h);have c0 : w.cell? ⟨p, 2, none⟩ = some (.map (some b)) := h.box.cell 2;obtain ⟨l, hm, htr, hmem⟩ := h.map;have hlt := hm.lt;have hnd := hm.nodup;obtain ⟨es, clock, hr, hit, hlen⟩ := hm.range (t := 117) Tryz.underlying117
 have hll : l.length = L.length := by
  have hp : (l.map (·.1)).Perm L := (List.perm_ext_iff_of_nodup hnd (b1a h.asc)).2 hmem;have := hp.length_eq;rwa [List.length_map] at this
 have hasc := h.asc;have HIT := hid hit;have HLEN := hid hlen;have HSI := hid (fun (s : List Cnt.K) (hp : s.Perm (l.map (·.1))) hs => keysIs hp hs hnd hasc hmem)
 have HLL := hid hll;have HLT := hid hlt;clear h hm hlt hnd hit hlen hmem hll hasc htr
 go_enter Tryz.func33, Tryz.ntmps33
 go_wp2_with fail
 refine HM.o.mono ?_;rintro e w1 ⟨rfl, rfl⟩
 go_wp2
 have HW := hid (show Ext w (w.alloc (.mapIter (some b) clock #[] clock)) from (Ext.refl _).alloc _);clear hr c0;generalize w.alloc (.mapIter (some b) clock #[] clock) = w0 at *
 go_loopw [3] (fun o wr => ∃ seen S, Iter kV vB wr w.heap.size b es clock l seen ∧ S.Perm ((b0l es l seen).map (·.1)) ∧ OE 66 w.heap.size wr o S ∧ Ext w wr) (fun _ wr => (leftOf es (wr.iterSeen w.heap.size)).size)
 case atStart => exact ⟨#[], [], HIT.o, by rw [a7x]; exact List.Perm.refl _, OE.a2g _ _ _, HW.o⟩
 case round =>
 obtain ⟨seen, S, hit, hp, ho, hext⟩ := hrel;rename World => wA
 have HP := hid hp;have HO := hid ho;have HX := hid hext;have hsn : wA.iterSeen w.heap.size = seen := by unfold World.iterSeen; rw [hit.it]
 have HSN := hid hsn
 rcases hit.next (Nat.ne_of_gt HLT.o) 0 with ⟨h0, hrun⟩ | ⟨x, w1, seen', hrun, hit1, hx1, hlt1, hp1, hent⟩
 . have hrun : ∀ ty, (Instr.next (.pointer (some ⟨w.heap.size, 0, none⟩)) false ty).run Tryz.prog wA = .ok (.tuple #[.bool false]) wA := fun _ => hrun
   have hall := a9o HLEN.o h0;have HSL := hid (show S.Perm (l.map (·.1)) by rw [<- hall]; exact HP.o)
   obtain ⟨A9, c9, rfl⟩ := HO.o.re.form;have hSl : S.length <= 1000000000 := by have := HSL.o.length_eq; have := HLL.o; rw [List.length_map] at *; omega
   clear h0 hall hp ho hext hit hsn
   go_wp2_with fail
   refine (b3d _ S w.heap.size wA HO.o hSl).mono ?_;rintro e w2 ⟨rfl, s, hps, hss, ho2, hg2⟩;have hsL := HSI.o s (hps.trans HSL.o) hss;subst hsL
   go_wp2
   go_ret
   exact ⟨_, rfl, ho2, HX.o.grown hg2 fun k hk => (HO.o.own.lt k hk).1⟩
 have hrun : ∀ ty, (Instr.next (.pointer (some ⟨w.heap.size, 0, none⟩)) false ty).run Tryz.prog wA = .ok (.tuple #[.bool true, kV x.1, vB x.2]) w1 := fun _ => hrun
 have ho1 := OE.a1c HO.o hx1 (by rw [hit.it]; intro _ _ _ q; cases q)
 have hSl : S.length <= 1000000 := by
  have h1 := HP.o.length_eq
  have h2 : (b0l es l seen).length <= l.length := by
   unfold b0l;rw [List.length_map];refine Nat.le_trans (List.length_filter_le _ _) ?_;rw [List.length_zip]; omega
  have := HLL.o;rw [List.length_map] at h1;omega
 have HO1 := hid ho1;have HX1 := hid (HX.o.andM hx1 (Nat.le_refl _));have HI1 := hid hit1;have HL1 := hid hlt1
 have HP1 : Hid ((S ++ [x.1]).Perm ((b0l es l seen').map (·.1))) := hid (by
  have h1 := hp1.map (·.1);rw [List.map_append] at h1
  exact (HP.o.append_right [x.1]).trans h1.symm)
 obtain ⟨⟨⟨x1, x2⟩, x3, x4⟩, x5⟩ := x;dsimp only [kV, vB] at hrun hent;obtain ⟨A9, c9, rfl⟩ := HO1.o.re.form;obtain ⟨hxk, k1, k2, k3, k4⟩ := b3i w1 x1 x2 x3 x4;have HXK := hid hxk;clear hp ho hext hit hsn ho1 hx1 hit1 hlt1 hp1 hxk;have HLT2 := hid (b6Y w1 x1 x2 x3 x4);have hxs : Ext w1 ((w1.alloc (.cells #[.int .i64 x1, .int .i64 x2, .int .i64 x3, .int .i64 x4] 66)).alloc (.cells #[.int .i64 x1, .int .i64 x2, .int .i64 x3, .int .i64 x4] 66)) := ((Ext.refl _).alloc _).alloc _;have HXS := hid hxs;have HO2 := hid (HO1.o.ext hxs);have HI2 := hid (HI1.o.ext hxs);have HX2 := hid (HX1.o.trans hxs);clear hxs
 go_wp2_with (at_builtin; refine a07 rfl a3h _ _ _ rfl w.heap.size _ _ S [((x1, x2), x3, x4)] rfl HO2.o rfl HLT2.o (by simp only [List.length_singleton]; omega) (by simp only [List.length_singleton]; unfold maxLen; omega) HX2.o.size ?_; intro v6 w6 ho6 hb6 hg6)
 have hi6 := b03 HI2.o HO2.o hg6;refine ⟨⟨seen', S ++ [((x1, x2), x3, x4)], hi6, HP1.o, ho6, Below.trans HX2.o hb6⟩, ?_⟩;rw [a8k hi6, HSN.o];exact HL1.o
attribute [local irreducible] RE OE a00
def jV (v : Value) (out : Int) (gc : Nat) : Value := .agg #[v, .int .i64 out, .pointer (some ⟨gc, 0, none⟩)]
theorem b3j (d : Nat) (v : Value) (g : G) (gc b : Nat) (L : List Cnt.S) (k : Cnt.K) (w : World) (hv : a00 d w v g.1) (hn : (gPl g).length <= 20) (hc : CM w gc b L) (hl : L.length <= 256) :
 Calls Tryz.prog 62 #[jV v g.2 gc, kV k] w fun e w' => e = .returned (.bool (!Fr.due g L k.1 k.2)) ∧ Ext w w' := by
 have HDU := hid (fun W (h : Ext w W) => b3a d v g gc b L k.1 k.2 W (hv.ext h) hn (hc.ext h) hl)
 obtain ⟨l, out⟩ := g;obtain ⟨⟨x1, x2⟩, x3, x4⟩ := k;simp only at hv HDU;generalize Fr.due (l, out) L (x1, x2) (x3, x4) = R at *;simp only [jV];obtain ⟨A, c, rfl⟩ := hv.form;clear hv hn hc hl;have HX := hid (show Ext w ((w.alloc (.cells #[.slice A l.length c, .int .i64 out, .pointer (some ⟨gc, 0, none⟩)] 124)).alloc (.cells #[.int .i64 x1, .int .i64 x2, .int .i64 x3, .int .i64 x4] 66)) from a0h [(#[.slice A l.length c, .int .i64 out, .pointer (some ⟨gc, 0, none⟩)], 124), (#[.int .i64 x1, .int .i64 x2, .int .i64 x3, .int .i64 x4], 66)] w);have HB0 := hid (show Blk ((w.alloc (.cells #[.slice A l.length c, .int .i64 out, .pointer (some ⟨gc, 0, none⟩)] 124)).alloc (.cells #[.int .i64 x1, .int .i64 x2, .int .i64 x3, .int .i64 x4] 66)) (w.heap.size) 124 #[.slice A l.length c, .int .i64 out, .pointer (some ⟨gc, 0, none⟩)] from a08 [(#[.slice A l.length c, .int .i64 out, .pointer (some ⟨gc, 0, none⟩)], 124), (#[.int .i64 x1, .int .i64 x2, .int .i64 x3, .int .i64 x4], 66)] w 0 _ _ rfl);have HB1 := hid (show Blk ((w.alloc (.cells #[.slice A l.length c, .int .i64 out, .pointer (some ⟨gc, 0, none⟩)] 124)).alloc (.cells #[.int .i64 x1, .int .i64 x2, .int .i64 x3, .int .i64 x4] 66)) (w.heap.size + 1) 66 #[.int .i64 x1, .int .i64 x2, .int .i64 x3, .int .i64 x4] from a08 [(#[.slice A l.length c, .int .i64 out, .pointer (some ⟨gc, 0, none⟩)], 124), (#[.int .i64 x1, .int .i64 x2, .int .i64 x3, .int .i64 x4], 66)] w 1 _ _ rfl)
 go_enter Tryz.func62, Tryz.ntmps62
 go_upto_region 1 with fail
 generalize w.heap.size = bn at *;generalize (w.alloc (.cells #[.slice A l.length c, .int .i64 out, .pointer (some ⟨gc, 0, none⟩)] 124)).alloc (.cells #[.int .i64 x1, .int .i64 x2, .int .i64 x3, .int .i64 x4] 66) = w0 at *;have c00 := HB0.o.c0;have c01 := HB0.o.c1;have c02 := HB0.o.c2;have c10 := HB1.o.c0;have c11 := HB1.o.c1;have c12 := HB1.o.c2;have c13 := HB1.o.c3
 go_wp2_with fail
 refine (HDU.o w0 HX.o).mono ?_;rintro e w1 ⟨rfl, he⟩;have HX := hid (HX.o.trans he);clear he
 go_wp2
 go_ret
 exact ⟨rfl, HX.o⟩
theorem egE : ∀ args w, (callFunc 62 args).run Tryz.prog w = .ok (.enter 62 args) w := enters_of Tryz.func62 (by kernel_rfl) rfl
theorem b4Z (d : Nat) (v : Value) (g : G) (gc b : Nat) (C : List Cnt.S) (u : Value) (L : List Cnt.K) (w0 w : World) (hv : a00 d w0 v g.1) (hn : (gPl g).length <= 20) (hc : CM w0 gc b C) (hC : C.length <= 256)
 (hx : Ext w0 w) (ho : OE 66 w0.heap.size w u L) (hl : L.length <= 1000000) :
 Calls Tryz.prog 61 #[u, .func (.func 62) #[jV v g.2 gc] #[]] w fun e w' => ∃ u', e = .returned u' ∧ RE w' u' (L.filter fun k => Fr.due g C k.1 k.2) ∧ Ext w0 w' := by
 obtain ⟨bq, hb, hbb⟩ : ∃ b, (∀ k, u.ownBlock = some k -> k = b) ∧ w0.heap.size <= b := by
  cases hv : u.ownBlock with
  | none => exact ⟨w.heap.size, (fun k h => nomatch h), hx.size⟩
  | some b => exact ⟨b, (fun k h => (Option.some.inj h).symm), (ho.own.lt b hv).1⟩
 have hback : ∀ W W', Ext w0 W -> ExtQ (fun k => k = bq) W W' -> Ext w0 W' := fun W W' h1 h2 =>
  Below.trans h1 ⟨h2.os, h2.tape, h2.output, h2.size, fun x hx => h2.block x (Nat.lt_of_lt_of_le hx h1.size) (by omega)⟩
 have h := b3h (σ := Unit) (fun _ k => (!Fr.due g C k.1 k.2, ())) 62 #[jV v g.2 gc] egE (fun _ W => Ext w0 W) (fun _ => False) bq w0.heap.size (fun _ W W' h1 h2 => hback W W' h1 h2) (fun h => h) u L w ho hb (fun _ h => h.elim) () hx (by omega)
  (fun j hj W hW => (b3j d v g gc b C L[j] W (hv.ext hW) hn (hc.ext hW) hC).mono fun e W' ⟨h1, h2⟩ => ⟨h1, hW.trans h2, ExtQ.of h2⟩)
 refine h.mono ?_;rintro e w' ⟨u', rfl, hu, _, hj, _⟩;refine ⟨u', rfl, ?_, hj⟩;have hk := keepU (fun k => !Fr.due g C k.1 k.2) L
 simp only [Bool.not_not] at hk;rw [<- hk];exact hu.re
theorem b6Z {L D : List Cnt.K} {i : Nat} (hi : i < D.length) : (L.filter fun x => !decide (x ∈ D.take i)).filter (fun x => !decide (x = D[i])) = L.filter fun x => !decide (x ∈ D.take (i + 1)) := by
 rw [List.filter_filter, List.take_succ_eq_append_getElem hi];refine List.filter_congr fun x _ => ?_
 have e : decide (x ∈ D.take i ++ [D[i]]) = (decide (x ∈ D.take i) || decide (x = D[i])) := by
  rw [<- Bool.decide_or];exact decide_eq_decide.2 (by rw [List.mem_append, List.mem_singleton])
 rw [e]
 cases decide (x ∈ D.take i) <;> cases decide (x = D[i]) <;> rfl
theorem b70 {L : List Cnt.K} (f : Cnt.K -> Bool) : (L.filter fun x => !decide (x ∈ (L.filter f).take (L.filter f).length)) = L.filter fun x => !f x := by
 rw [List.take_length];refine List.filter_congr fun x hx => ?_
 rw [show decide (x ∈ L.filter f) = f x from by
  rw [Bool.eq_iff_iff, decide_eq_true_eq, List.mem_filter]
  exact ⟨fun h => h.2, fun h => ⟨hx, h⟩⟩]
theorem b05 (w : World) (p b d : Nat) (v : Value) (g : G) (L : List Cnt.K) (gc bc : Nat) (C : List Cnt.S) (h : NM w p b d v g L) (hL : L.length <= 1000000) (hn : (gPl g).length <= 20) (hc : CM w gc bc C) (hC : C.length <= 256) :
 Calls Tryz.prog 31 #[.pointer (some ⟨p, 0, none⟩), .pointer (some ⟨gc, 0, none⟩)] w fun e w' => ∃ u, e = .returned u ∧ RE w' u (L.filter fun k => Fr.due g C k.1 k.2) ∧ NM w' p b d v g (L.filter fun k => !Fr.due g C k.1 k.2) ∧ ∃ w1, Ext w w1 ∧ ExtM b w1 w' := by
 have HM := hid (a5J w p b d v g L h);have HWT := hid (fun W (hW : Ext w W) => a0L W p b d v g L (h.ext hW) hL)
 have HDL := hid (fun w0 (hw : Ext w w0) u W (hx : Ext w0 W) (ho : OE 66 w0.heap.size W u L) => b4Z d v g gc bc C u L w0 W (h.nod.ext hw) hn (hc.ext hw) hC hx ho hL)
 have HN := hid h;have H66 := hid (b70 (L := L) fun k => Fr.due g C k.1 k.2)
 obtain ⟨A, c, hvf⟩ := h.nod.form;subst hvf;obtain ⟨l, out⟩ := g;simp only [jV] at HDL;generalize hD : (L.filter fun k => Fr.due (l, out) C k.1 k.2) = D at *
 generalize hE : (L.filter fun k => !Fr.due (l, out) C k.1 k.2) = E at *
 have hDl : D.length <= 1000000 := by rw [<- hD]; exact Nat.le_trans (List.length_filter_le _ _) hL
 have g0 : w.cell? ⟨p, 0, none⟩ = some (.slice A l.length c) := h.box.cell 0;have g1 : w.cell? ⟨p, 1, none⟩ = some (.int .i64 out) := h.box.cell 1;clear h hc hn hC hD hE
 go_enter Tryz.func31, Tryz.ntmps31
 go_wp2_with fail
 refine HM.o.mono ?_;rintro e w1 ⟨rfl, rfl⟩
 go_wp2
 refine a0c 9 [] [] Ext Ext (fun _ => True) (by kernel_rfl) (by kernel_rfl) (by kernel_rfl) (by kernel_rfl) (by kernel_rfl) (by kernel_rfl) (by kernel_rfl) (by rfl) (by rfl) (by kernel_rfl) (by kernel_rfl) (by kernel_rfl) (fun _ _ _ x y => x.trans y) Ext.refl (fun _ _ x => x) (Ext.refl _).drew (fun _ _ x _ => x) trivial ?_
 refine yl0 ?_;refine a09 (fun x W => OE 66 w.heap.size W x L) rfl rfl (a03 rfl) rfl (by first | exact a0g | exact (fun _ _ _ h k => Rd.ext h k) | exact (fun _ _ _ h k => RB.ext h k) | exact (fun _ _ _ h k => OB.ext h k) | exact (fun _ _ _ h k => RB.extS h k) | exact (fun _ _ _ h k => Rd.ext h (a04.ext k)) | exact (fun _ _ _ h k => RP.ext h k) | exact (fun _ _ _ h k => OP.ext h k) | exact (fun _ _ _ h k => Rd.extV h k) | exact (fun _ _ _ h k => RB.extV h k) | exact (fun _ _ _ h k => E0.ext h k) | exact (fun _ _ _ h k => O0.ext h k) | exact (fun _ _ _ h k => RE.ext h k) | exact (fun _ _ _ h k => RE.extD h k) | exact (fun _ _ _ h _ => h) | exact (fun _ _ _ ⟨n, h1, h2⟩ k => ⟨n, h1, k.st _ _ h2⟩) | exact (fun _ _ _ h k => OE.ext h k) | exact (fun _ _ _ ⟨n, h1, h2, h3⟩ k => ⟨n, h1, h2, h3.ext k⟩)) ?_ ?_
 . intro a w' hR h1 K hK
   have e1 : _ = _ := h1;go_simp;refine ((HWT.o w' hR).mono fun e w2 ⟨u, h1, h2, h3⟩ => (⟨u, h1, h2.low hR.size, h3⟩ : ∃ u, e = Ending.returned u ∧ OE 66 w.heap.size w2 u L ∧ Ext w' w2)).mono ?_
   rintro e w2 ⟨u, rfl, ho, he⟩;exact hK _ _ he ho
 refine ya ?_;refine yl2 g0 g1 ?_;refine ya1 ?_;refine a0j rfl rfl (a03 rfl) Ext.refl rfl ?_; apply Exists.intro; refine ⟨?_, ?_⟩
 . intro a w' hR h1 h2
   have e1 : _ = _ := h1;have e2 : _ = _ := h2;have q1 := e1; rw [Array.getD_eq_getD_getElem?] at q1;have q2 := e2; rw [Array.getD_eq_getD_getElem?] at q2;go_simp;rfl
 refine a0j rfl rfl (a03 rfl) Ext.refl rfl ?_; apply Exists.intro; refine ⟨?_, ?_⟩
 . intro a w' hR h1
   have e1 : _ = _ := h1;have q1 := e1; rw [Array.getD_eq_getD_getElem?] at q1;go_simp;rfl
 refine a01 ?_;intro w1 hx hS;rintro _ rfl;rintro u hu
 iterate 7 (rintro _ rfl)
 dsimp only [a0y];go_simp;clear hS g0 g1;have HU9 := hid (HDL.o w (Ext.refl w) u w1 hx hu);clear hu HDL HWT HM;simp only [a0n, List.drop_succ_cons, List.drop_zero]
 go_wp2_with fail
 refine HU9.o.mono ?_;rintro e w2 ⟨u2, rfl, hu2, he⟩;obtain ⟨AD, cD, rfl⟩ := hu2.form;have HU := hid hu2;have HX := hid he;have HN2 := hid (HN.o.ext he);clear hu2 he hx HU9 HN
 go_wp2
 go_loopw [23] (fun iv wr => ∃ i : Nat, i <= D.length ∧ iv = .int .i64 (i : Int) ∧ NM wr p b d (.slice A l.length c) (l, out) (L.filter fun x => !decide (x ∈ D.take i)) ∧ RE wr (.slice AD D.length cD) D ∧ ∃ w9, Ext w w9 ∧ ExtM b w9 wr) (fun iv _ => D.length - (intOf iv).toNat)
 case atStart =>
  refine ⟨0, Nat.zero_le _, rfl, ?_, HU.o, _, HX.o, ExtM.refl _ _⟩;rw [show (L.filter fun x => !decide (x ∈ D.take 0)) = L from by simp]
  exact HN2.o
 case round =>
 rename World => wr
 obtain ⟨i, hi, rfl, hn, hu, w9, hx1, hx2⟩ := hrel;have HNR := hid hn;have HUR := hid hu;have HX1 := hid hx1;have HX2 := hid hx2;clear hn hx1 hx2
 by_cases hlt : i < D.length
 . have r1 : (i : Int) < (D.length : Int) := by omega
   have r0 : 0 <= (i : Int) := by omega
   have HT := hid (b6Z (L := L) hlt);have HLT := hid hlt;obtain ⟨bA, oA, rfl, hcA⟩ := hu.at_ (i := i) hlt;generalize D[i] = x at *;obtain ⟨⟨x1, x2⟩, x3, x4⟩ := x;have c0 : wr.cell? ⟨bA, oA + i * 4, none⟩ = some (.int .i64 x1) := hcA 0 _ rfl;have c1 : wr.cell? ⟨bA, oA + i * 4 + 1, none⟩ = some (.int .i64 x2) := hcA 1 _ rfl;have c2 : wr.cell? ⟨bA, oA + i * 4 + 2, none⟩ = some (.int .i64 x3) := hcA 2 _ rfl;have c3 : wr.cell? ⟨bA, oA + i * 4 + 3, none⟩ = some (.int .i64 x4) := hcA 3 _ rfl;clear hcA hu hlt hi
   go_wp2
   have hb := Blk.new wr 66 #[.int .i64 x1, .int .i64 x2, .int .i64 x3, .int .i64 x4];have hxs : Ext wr (wr.alloc (.cells #[.int .i64 x1, .int .i64 x2, .int .i64 x3, .int .i64 x4] 66)) := (Ext.refl _).alloc _;have HN3 := hid (HNR.o.ext hxs);have HU3 := hid (RE.ext HUR.o hxs);have HX3 := hid (HX2.o.trans (ExtM.of hxs));clear c0 c1 c2 c3 hxs;generalize wr.alloc (.cells #[.int .i64 x1, .int .i64 x2, .int .i64 x3, .int .i64 x4] 66) = w3 at *;have a0 := hb.c0;have a1 := hb.c1;have a2 := hb.c2;have a3 := hb.c3;have g2 : w3.cell? ⟨p, 2, none⟩ = some (.map (some b)) := HN3.o.box.cell 2;clear hb;refine a0c 5 [] [] Ext Ext (fun _ => True) (by kernel_rfl) (by kernel_rfl) (by kernel_rfl) (by kernel_rfl) (by kernel_rfl) (by kernel_rfl) (by kernel_rfl) (by rfl) (by rfl) (by kernel_rfl) (by kernel_rfl) (by kernel_rfl) (fun _ _ _ x y => x.trans y) Ext.refl (fun _ _ x => x) (Ext.refl _).drew (fun _ _ x _ => x) trivial ?_
   refine ya ?_;refine yl1 g2 ?_;refine yl4 a0 a1 a2 a3 ?_;refine a01 ?_;intro w4 hx hS
   iterate 5 (rintro _ rfl)
   dsimp only [a0y];go_simp;obtain ⟨w5, hdel, hxm, hn5⟩ := (HN3.o.ext hx).del ((x1, x2), x3, x4);dsimp only [kV] at hdel;have HN5 := hid hn5;have HU5 := hid (a1F (RE.ext HU3.o hx) hxm);have HX5 := hid ((HX3.o.trans (ExtM.of hx)).trans hxm);clear hn5 hxm hx hS a0 a1 a2 a3 g2;simp only [a0n, List.drop_succ_cons, List.drop_zero]
   go_wp2
   exact ⟨⟨i + 1, HLT.o, by go_num, by rw [<- HT.o]; exact HN5.o, HU5.o, _, HX1.o, HX5.o⟩, by have := HLT.o; simp [intOf]; omega⟩
 obtain rfl : i = D.length := by omega
 have r1 : ¬ (D.length : Int) < (D.length : Int) := by omega
 clear hi hlt
 go_wp2
 go_ret
 exact ⟨_, rfl, hu, by rw [<- H66.o]; exact HNR.o, _, HX1.o, HX2.o⟩
end Go.Proofs.YtdkejfjcchlnpaaGreat
namespace Go.Proofs.YtdkejfjcchlnpaaGreat
open Go.RowKit Go.Ox Go.Ox.Gr Mo Ct
theorem b3k : Tryz.prog.eqGuardType Tryz.prog.depth 66 = false := by kernel_rfl
theorem eqAtA {α : Type} (l r : List α) (k : Nat) (h1 : k < l.length) (h2 : k < r.length) (ht : l.take k = r.take k) : (l[k] = r[k] -> l.take (k + 1) = r.take (k + 1)) ∧ (l[k] ≠ r[k] -> l ≠ r) := by
 refine ⟨fun h => ?_, fun h e => ?_⟩
 . rw [List.take_succ_eq_append_getElem h1, List.take_succ_eq_append_getElem h2, ht, h]
 subst e; exact h rfl
theorem reA4 {w : World} {A : Option Addr} {n c : Nat} {l : List Cnt.K} (h : RE w (.slice A n c) l) {k : Nat} (hk : k < l.length) :
 ∃ b o, A = some ⟨b, o, none⟩ ∧ w.cell? ⟨b, o + k * 4, none⟩ = some (.int .i64 l[k].1.1) ∧ w.cell? ⟨b, o + k * 4 + 1, none⟩ = some (.int .i64 l[k].1.2) ∧ w.cell? ⟨b, o + k * 4 + 2, none⟩ = some (.int .i64 l[k].2.1) ∧ w.cell? ⟨b, o + k * 4 + 3, none⟩ = some (.int .i64 l[k].2.2) := by
 obtain ⟨b, o, e, h2⟩ := h.at_ hk;exact ⟨b, o, e, h2 0 _ rfl, h2 1 _ rfl, h2 2 _ rfl, h2 3 _ rfl⟩
theorem b3l (A B : Option Addr) (n m c d : Nat) (w : World) (hne : n ≠ m) : Calls Tryz.prog 30 #[.slice A n c, .slice B m d] w fun e w' => e = .returned (.bool false) ∧ w = w' := by
 have h : ((n : Int) != (m : Int)) = true := by simp; omega
 go_enter Tryz.func30, Tryz.ntmps30
 go_wp2
 go_ret
 exact ⟨rfl, rfl⟩
theorem b3m (v u : Value) (l r : List Cnt.K) (w : World) (hv : RE w v l) (hu : RE w u r) : Calls Tryz.prog 30 #[v, u] w fun e w' => e = .returned (.bool (decide (l = r))) ∧ Ext w w' := by
 obtain ⟨A, c, rfl⟩ := hv.form;obtain ⟨B, d, rfl⟩ := hu.form
 by_cases hl : l.length = r.length
 . have HV := hid hv
   have HU := hid hu;have HL := hid hl;have hlb : l.length <= 9223372036854775807 := by have := hv.nc; unfold maxLen at this; omega
   rw [<- hl] at HU ⊢;clear hv hu hl;have hE := neAsk;have hG := b3k
   go_enter Tryz.func30, Tryz.ntmps30
   go_wp2
   go_loopw [5] (fun i wr => ∃ k : Nat, k <= l.length ∧ i = .int .i64 k ∧ l.take k = r.take k ∧ Ext w wr) (fun i _ => l.length - (intOf i).toNat)
   case atStart => exact ⟨0, Nat.zero_le _, rfl, by simp, Ext.refl _⟩
   case round =>
   obtain ⟨k, hk, rfl, ht, hext⟩ := hrel;have HT := hid ht;have HX := hid hext;clear ht hext
   by_cases hlt : k < l.length
   . have g1 : (k : Int) < (l.length : Int) := by omega
     have g0 : 0 <= (k : Int) := by omega
     have hlr : k < r.length := by have := HL.o; omega
     obtain ⟨b1, o1, rfl, c1, c2, c3, c4⟩ := reA4 HV.o hlt;obtain ⟨b2, o2, rfl, d1, d2, d3, d4⟩ := reA4 HU.o hlr;have c1 := HX.o.cell c1;have c2 := HX.o.cell c2;have c3 := HX.o.cell c3;have c4 := HX.o.cell c4;have d1 := HX.o.cell d1;have d2 := HX.o.cell d2;have d3 := HX.o.cell d3;have d4 := HX.o.cell d4;obtain ⟨hst, hsn⟩ := eqAtA l r k hlt hlr HT.o;have HST := hid hst;have HSN := hid hsn;clear hst hsn;generalize l[k] = x at *;generalize r[k] = y at *;obtain ⟨⟨x1, x2⟩, x3, x4⟩ := x;obtain ⟨⟨y1, y2⟩, y3, y4⟩ := y;dsimp only at *;have hE := neAsk ((x1, x2), x3, x4) ((y1, y2), y3, y4);dsimp only [kV] at hE
     by_cases hxy : ((x1, x2), x3, x4) = ((y1, y2), y3, y4)
     . have HN := hid (HST.o hxy)
       rw [decide_eq_true hxy] at hE;clear hxy HST HSN
       go_wp2
       refine yx ?_;refine ya ?_;refine yl4 c1 c2 c3 c4 ?_;refine ya ?_;refine yl4 d1 d2 d3 d4 ?_;refine yl0 ?_;refine a01 ?_;intro w5 hx5 hS5
       iterate 9 (rintro _ rfl)
       dsimp only [a0y];go_simp;have HX5 := hid hx5;clear hx5
       go_wp2
       exact ⟨⟨k + 1, by omega, by go_num, HN.o, HX.o.trans HX5.o⟩, by simp [intOf]; omega⟩
     have HN := hid (HSN.o hxy);rw [decide_eq_false hxy] at hE;clear hxy HST HSN
     go_wp2
     refine yx ?_;refine ya ?_;refine yl4 c1 c2 c3 c4 ?_;refine ya ?_;refine yl4 d1 d2 d3 d4 ?_;refine yl0 ?_;refine a01 ?_;intro w5 hx5 hS5
     iterate 9 (rintro _ rfl)
     dsimp only [a0y];go_simp;have HX5 := hid hx5;clear hx5
     go_wp2
     go_ret
     rw [decide_eq_false HN.o];exact ⟨rfl, HX.o.trans HX5.o⟩
   obtain rfl : k = l.length := by omega
   have g1 : ¬ (l.length : Int) < (l.length : Int) := by omega
   have HN := hid (show l = r by
    have h1 := HT.o;rw [List.take_length, HL.o, List.take_length] at h1
    exact h1)
   go_wp2
   go_ret
   rw [decide_eq_true HN.o];exact ⟨rfl, HX.o⟩
 refine (b3l A B _ _ c d w hl).mono ?_;rintro e w' ⟨rfl, rfl⟩;exact ⟨by rw [decide_eq_false fun h => hl (by rw [h])], Ext.refl _⟩
end Go.Proofs.YtdkejfjcchlnpaaGreat
namespace Go.Ox.Fr
open Go.Ox.Gr Go.Ox.Pl Go.Proofs.YtdkejfjcchlnpaaGreat Go.Proofs.YtdkejfjcchlnpaaGreat.Mo Go.Proofs.YtdkejfjcchlnpaaGreat.Ct
theorem bfK_1 {x1 x2 x3 x4 y1 y2 y3 y4 : Int} (h : ¬ x1 = y1) : bfK ((y1, y2), y3, y4) ((x1, x2), x3, x4) = decide (x1 < y1) := by
 rw [Bool.eq_iff_iff, a4r, decide_eq_true_eq];unfold Cnt.klt Mom.lt;simp only [Prod.mk.injEq];omega
theorem bfK_2 {x1 x2 x3 x4 y2 y3 y4 : Int} (h : ¬ x2 = y2) : bfK ((x1, y2), y3, y4) ((x1, x2), x3, x4) = decide (x2 < y2) := by
 rw [Bool.eq_iff_iff, a4r, decide_eq_true_eq];unfold Cnt.klt Mom.lt;simp only [Prod.mk.injEq, Int.lt_irrefl, true_and, false_or];omega
theorem bfK_3 {x1 x2 x3 x4 y3 y4 : Int} : bfK ((x1, x2), y3, y4) ((x1, x2), x3, x4) = decide (Mom.cmp (x3, x4) (y3, y4) < 0) := by
 unfold bfK Cnt.a7n;rw [if_pos (Cnt.a7h.2 rfl)]
end Go.Ox.Fr
namespace Go.Proofs.YtdkejfjcchlnpaaGreat
open Go.RowKit Go.Ox Go.Ox.Gr Mo Ct
theorem b1b (x y : Cnt.K) (w : World) : Calls Tryz.prog 60 #[kV x, kV y] w fun e w' => e = .returned (.bool (Fr.bfK y x)) ∧ Ext w w' := by
 obtain ⟨⟨x1, x2⟩, x3, x4⟩ := x;obtain ⟨⟨y1, y2⟩, y3, y4⟩ := y;have HC := hid (fun W => Mo.a4H (x3, x4) (y3, y4) W)
 have H1 := hid (fun h : ¬ x1 = y1 => Fr.bfK_1 (x2 := x2) (x3 := x3) (x4 := x4) (y2 := y2) (y3 := y3) (y4 := y4) h)
 have H2 := hid (fun (h1 : x1 = y1) (h : ¬ x2 = y2) => show Fr.bfK ((y1, y2), y3, y4) ((x1, x2), x3, x4) = decide (x2 < y2) from by subst h1; exact Fr.bfK_2 h)
 have H3 := hid (fun (h1 : x1 = y1) (h2 : x2 = y2) => show Fr.bfK ((y1, y2), y3, y4) ((x1, x2), x3, x4) = decide (Mom.cmp (x3, x4) (y3, y4) < 0) from by subst h1; subst h2; exact Fr.bfK_3)
 generalize Fr.bfK ((y1, y2), y3, y4) ((x1, x2), x3, x4) = R at *;generalize Mom.cmp (x3, x4) (y3, y4) = cm at *;have HX := hid (show Ext w ((w.alloc (.cells #[.int .i64 x1, .int .i64 x2, .int .i64 x3, .int .i64 x4] 66)).alloc (.cells #[.int .i64 y1, .int .i64 y2, .int .i64 y3, .int .i64 y4] 66)) from a0h [(#[.int .i64 x1, .int .i64 x2, .int .i64 x3, .int .i64 x4], 66), (#[.int .i64 y1, .int .i64 y2, .int .i64 y3, .int .i64 y4], 66)] w);have HB0 := hid (show Blk ((w.alloc (.cells #[.int .i64 x1, .int .i64 x2, .int .i64 x3, .int .i64 x4] 66)).alloc (.cells #[.int .i64 y1, .int .i64 y2, .int .i64 y3, .int .i64 y4] 66)) (w.heap.size) 66 #[.int .i64 x1, .int .i64 x2, .int .i64 x3, .int .i64 x4] from a08 [(#[.int .i64 x1, .int .i64 x2, .int .i64 x3, .int .i64 x4], 66), (#[.int .i64 y1, .int .i64 y2, .int .i64 y3, .int .i64 y4], 66)] w 0 _ _ rfl);have HB1 := hid (show Blk ((w.alloc (.cells #[.int .i64 x1, .int .i64 x2, .int .i64 x3, .int .i64 x4] 66)).alloc (.cells #[.int .i64 y1, .int .i64 y2, .int .i64 y3, .int .i64 y4] 66)) (w.heap.size + 1) 66 #[.int .i64 y1, .int .i64 y2, .int .i64 y3, .int .i64 y4] from a08 [(#[.int .i64 x1, .int .i64 x2, .int .i64 x3, .int .i64 x4], 66), (#[.int .i64 y1, .int .i64 y2, .int .i64 y3, .int .i64 y4], 66)] w 1 _ _ rfl)
 go_enter Tryz.func60, Tryz.ntmps60
 go_upto_region 1 with fail
 generalize w.heap.size = bn at *;generalize (w.alloc (.cells #[.int .i64 x1, .int .i64 x2, .int .i64 x3, .int .i64 x4] 66)).alloc (.cells #[.int .i64 y1, .int .i64 y2, .int .i64 y3, .int .i64 y4] 66) = w0 at *;have c00 := HB0.o.c0;have c01 := HB0.o.c1;have c02 := HB0.o.c2;have c03 := HB0.o.c3;have c10 := HB1.o.c0;have c11 := HB1.o.c1;have c12 := HB1.o.c2;have c13 := HB1.o.c3
 by_cases h1 : x1 = y1
 . have t1 : (x1 != y1) = false := by simpa using h1
   by_cases h2 : x2 = y2
   . have t2 : (x2 != y2) = false := by simpa using h2
     have HR := hid (H3.o h1 h2);clear h1 h2
     go_wp2_with fail
     refine (HC.o w0).mono ?_;rintro e w1 ⟨rfl, he⟩;have HX := hid (HX.o.trans he);clear he
     go_wp2
     go_ret
     exact ⟨by rw [HR.o]; first | rfl | simp, HX.o⟩
   have t2 : (x2 != y2) = true := by simpa using h2
   have HR := hid (H2.o h1 h2);clear h1 h2
   go_wp2
   go_ret
   exact ⟨by rw [HR.o]; first | rfl | simp, HX.o⟩
 have t1 : (x1 != y1) = true := by simpa using h1
 have HR := hid (H1.o h1);clear h1
 go_wp2
 go_ret
 exact ⟨by rw [HR.o]; first | rfl | simp, HX.o⟩
end Go.Proofs.YtdkejfjcchlnpaaGreat
namespace Go.Ox.Fr
open Go.Ox.Gr Go.Ox.Pl Go.Proofs.YtdkejfjcchlnpaaGreat Go.Proofs.YtdkejfjcchlnpaaGreat.Mo Go.Proofs.YtdkejfjcchlnpaaGreat.Ct
theorem tw_at {L : List Cnt.K} {k : Cnt.K} {j : Nat} (hj : j <= L.length) (h : ∀ x ∈ L.take j, bfK k x = true) (hn : ∀ h : j < L.length, bfK k L[j] = false) : L.takeWhile (bfK k) = L.take j ∧ L.dropWhile (bfK k) = L.drop j := by
 have h0 : L.drop j = [] ∨ ∃ hlt : j < L.length, L.drop j = L[j] :: L.drop (j + 1) := by
  by_cases hlt : j < L.length
  . exact .inr ⟨hlt, List.drop_eq_getElem_cons hlt⟩
  exact .inl (List.drop_eq_nil_of_le (by omega))
 have e1 : (L.drop j).takeWhile (bfK k) = [] ∧ (L.drop j).dropWhile (bfK k) = L.drop j := by
  rcases h0 with h0 | ⟨hlt, h0⟩
  . rw [h0]; exact ⟨rfl, rfl⟩
  rw [h0];exact ⟨List.takeWhile_cons_of_neg (by rw [hn hlt]; simp), List.dropWhile_cons_of_neg (by rw [hn hlt]; simp)⟩
 have e2 : L = L.take j ++ L.drop j := (List.take_append_drop j L).symm;constructor
 . rw [show L.takeWhile (bfK k) = (L.take j ++ L.drop j).takeWhile (bfK k) by rw [<- e2], List.takeWhile_append_of_pos h, e1.1, List.append_nil]
 rw [show L.dropWhile (bfK k) = (L.take j ++ L.drop j).dropWhile (bfK k) by rw [<- e2], List.dropWhile_append_of_pos h, e1.2]
theorem b71 {L : List Cnt.K} {k : Cnt.K} {j : Nat} (hj : j <= L.length) (h : ∀ x ∈ L.take j, bfK k x = true) (hn : ∀ h : j < L.length, bfK k L[j] = false) : a6z L k = (L.take j ++ [k]) ++ L.drop j := by
 obtain ⟨h1, h2⟩ := tw_at hj h hn;unfold a6z;rw [h1, h2, List.append_assoc, List.singleton_append]
theorem bf_irr (k : Cnt.K) : bfK k k = false := by
 rw [<- Bool.not_eq_true, a4r];exact Cnt.a0x k
theorem mem_at {L : List Cnt.K} {k : Cnt.K} {j : Nat} (ha : L.Pairwise Cnt.klt) (hj : j <= L.length) (h : ∀ x ∈ L.take j, bfK k x = true) (hn : ∀ h : j < L.length, bfK k L[j] = false) : k ∈ L ↔ ∃ h : j < L.length, L[j] = k := by
 constructor
 . intro hk
   rw [<- List.take_append_drop j L, List.mem_append] at hk
   rcases hk with hk | hk
   . have := h k hk
     rw [bf_irr] at this
     cases this
   by_cases hlt : j < L.length
   . refine ⟨hlt, ?_⟩
     rw [List.drop_eq_getElem_cons hlt] at hk
     rcases List.mem_cons.1 hk with e | hk
     . exact e.symm
     have h1 : (L.drop j).Pairwise Cnt.klt := ha.sublist (List.drop_sublist j L);rw [List.drop_eq_getElem_cons hlt] at h1;have h2 := (List.pairwise_cons.1 h1).1 k hk;have h3 := hn hlt;rw [a4r.2 h2] at h3
     cases h3
   rw [List.drop_eq_nil_of_le (by omega)] at hk
   cases hk
 rintro ⟨hlt, e⟩;rw [<- e];exact List.getElem_mem hlt
theorem bf_s {L : List Cnt.K} {k : Cnt.K} {j : Nat} (hj : j < L.length) (h : ∀ x ∈ L.take j, bfK k x = true) (hb : bfK k L[j] = true) : ∀ x ∈ L.take (j + 1), bfK k x = true := by
 intro x hx;rw [List.take_succ_eq_append_getElem hj, List.mem_append, List.mem_singleton] at hx
 rcases hx with hx | rfl
 . exact h x hx
 exact hb
theorem b50 (L : List Cnt.K) (k : Cnt.K) : (a6z L k).length = L.length + 1 := by
 unfold a6z;rw [List.length_append, List.length_cons];have : (L.takeWhile (bfK k)).length + (L.dropWhile (bfK k)).length = L.length := by rw [<- List.length_append, List.takeWhile_append_dropWhile]
 omega
end Go.Ox.Fr
