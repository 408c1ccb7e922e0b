/-
  Fr8, GrReach, CntLives, packed: what the claim needs of them.
-/
import Derived.Test.YtdkejfjcchlnpaaGreatFn43
set_option maxHeartbeats 40000000
open Go.Lib (hid)
set_option linter.unusedSimpArgs false
set_option linter.unusedVariables false
set_option maxRecDepth 100000
namespace Go.Proofs.YtdkejfjcchlnpaaGreat
open Go.RowKit Go.Ox Go.Ox.Gr Go.Shelf Mo Ct
theorem keysIs {s l L : List Cnt.K} (hp : s.Perm l) (hs : s.Pairwise fun a b => ¬ Cnt.klt b a) (hn : l.Nodup) (hg : L.Pairwise Cnt.klt) (h : ∀ x, x ∈ l ↔ x ∈ L) : s = L := by
 refine Fr.keysK ?_ hg fun x => by rw [hp.mem_iff, h]
 have hn2 : s.Nodup := hp.nodup_iff.2 hn;rw [List.nodup_iff_pairwise_ne] at hn2;refine (hs.and hn2).imp fun {a b} hh => ?_
 rcases Cnt.a1y a b with q | q | q
 · exact q
 · exact absurd q hh.2
 exact absurd q hh.1
theorem a97 {L : List Cnt.K} (h : L.Pairwise Cnt.klt) : L.Nodup := by
 rw [List.nodup_iff_pairwise_ne];refine h.imp ?_;intro a b q e;subst e;exact Cnt.a0r _ q
theorem a4B {α : Type} [Enc α] {b : Nat} {w w' : World} {v : Value} {l : List α} (h : RE w v l) (he : ExtM b w w') : RE w' v l := Rd.a1Q h he
theorem b4p (w : World) (x1 x2 x3 x4 : Int) : RE ((w.alloc (.cells #[.int .i64 x1, .int .i64 x2, .int .i64 x3, .int .i64 x4] 66)).alloc (.cells #[.int .i64 x1, .int .i64 x2, .int .i64 x3, .int .i64 x4] 66)) (.slice (some ⟨w.heap.size + 1, 0, none⟩) 1 1) [((x1, x2), x3, x4)] := by
 have h := RE.lit (w.alloc (.cells #[.int .i64 x1, .int .i64 x2, .int .i64 x3, .int .i64 x4] 66)) #[.int .i64 x1, .int .i64 x2, .int .i64 x3, .int .i64 x4] 66 1 [((x1, x2), x3, x4)] rfl (by omega) rfl
 rwa [show (w.alloc (.cells #[.int .i64 x1, .int .i64 x2, .int .i64 x3, .int .i64 x4] 66)).heap.size = w.heap.size + 1 by simp] at h
theorem b1a (w : World) (x1 x2 x3 x4 : Int) : Ext w (w.alloc (.cells #[.int .i64 x1, .int .i64 x2, .int .i64 x3, .int .i64 x4] 66)) ∧
 (w.alloc (.cells #[.int .i64 x1, .int .i64 x2, .int .i64 x3, .int .i64 x4] 66)).cell? ⟨w.heap.size, 0, none⟩ = some (.int .i64 x1) ∧ (w.alloc (.cells #[.int .i64 x1, .int .i64 x2, .int .i64 x3, .int .i64 x4] 66)).cell? ⟨w.heap.size, 1, none⟩ = some (.int .i64 x2) ∧
 (w.alloc (.cells #[.int .i64 x1, .int .i64 x2, .int .i64 x3, .int .i64 x4] 66)).cell? ⟨w.heap.size, 2, none⟩ = some (.int .i64 x3) ∧ (w.alloc (.cells #[.int .i64 x1, .int .i64 x2, .int .i64 x3, .int .i64 x4] 66)).cell? ⟨w.heap.size, 3, none⟩ = some (.int .i64 x4) := by
 have h := Blk.new w 66 #[.int .i64 x1, .int .i64 x2, .int .i64 x3, .int .i64 x4];exact ⟨(Ext.refl _).alloc _, h.cell 0, h.cell 1, h.cell 2, h.cell 3⟩
theorem NM.del {w : World} {p b d : Nat} {v : Value} {g : G} {L : List Cnt.K} (h : NM w p b d v g L) (k : Cnt.K) :
 ∃ w', (∀ (T' ty : TypeId), (Builtin.delete_ #[117, T'] ty #[.map (some b), kV k]).run Tryz.prog w = .ok (.tuple #[]) w') ∧ ExtM b w w' ∧ NM w' p b d v g (L.filter fun x => !decide (x = k)) := by
 obtain ⟨l, h1, h2, h3⟩ := h.map;obtain ⟨w', h4, h5, h6⟩ := h1.a9n keyA Tryz.underlying117 k;refine ⟨w', h4, h6, h.box.a1Q h6 h.ne, h.nod.a1Q h6, h.ne, ⟨a99 k l, h5, fun x hx => h2 x ((a3W h1.nodup x).1 hx).1, fun x => ?_⟩, h.asc.filter _⟩
 rw [List.mem_filter, ← h3, List.mem_map, List.mem_map];constructor
 · rintro ⟨y, hy, rfl⟩
   obtain ⟨q1, q2⟩ := (a3W h1.nodup y).1 hy;exact ⟨⟨y, q1, rfl⟩, by simpa using q2⟩
 rintro ⟨⟨y, hy, rfl⟩, q⟩;exact ⟨y, (a3W h1.nodup y).2 ⟨hy, by simpa using q⟩, rfl⟩
theorem keepU (f : Cnt.K → Bool) : ∀ l : List Cnt.K, a1R (fun (_ : Unit) x => (f x, ())) () l = l.filter fun x => !f x
 | [] => rfl
 | x :: l => by
  have := keepU f l;simp only [a1R, List.filter_cons]
  cases f x <;> simp [this]
theorem a7u (w : World) : Calls Tryz.prog 33 #[.pointer none] w fun e w' => e = .returned (.slice none 0 0) ∧ w = w' := by
 go_enter Tryz.func33, Tryz.ntmps33
 go_wp2_with fail
 refine (a4A _).mono ?_;rintro e w1 ⟨rfl, rfl⟩
 go_wp2
 go_ret
 exact ⟨rfl, rfl⟩
theorem take_nil (u : Value) (w : World) : Calls Tryz.prog 31 #[.pointer none, u] w fun e w' => e = .returned (.slice none 0 0) ∧ w = w' := by
 go_enter Tryz.func31, Tryz.ntmps31
 go_wp2_with fail
 refine (a4A _).mono ?_;rintro e w1 ⟨rfl, rfl⟩
 go_wp2
 go_ret
 exact ⟨rfl, rfl⟩
theorem b4q (q : Pl.P2) (m : Mom.M) (w : World) : Calls Tryz.prog 27 #[.pointer none, plV q, mV m] w fun e w' => e = .returned (.int .i64 6) ∧ Ext w w' := by
 obtain ⟨q1, q2⟩ := q;obtain ⟨m1, m2⟩ := m;have HX := hid (show Ext w ((w.alloc (.cells #[.int .i64 q1, .int .i64 q2] 27)).alloc (.cells #[.int .i64 m1, .int .i64 m2] 29)) from ((Ext.refl _).alloc _).alloc _)
 go_enter Tryz.func27, Tryz.ntmps27
 go_wp2_with fail
 refine (a4A _).mono ?_;rintro e w1 ⟨rfl, rfl⟩
 go_wp2
 go_ret
 exact ⟨rfl, HX.o⟩
theorem a4C (w : World) (p b d : Nat) (v : Value) (g : G) (L : List Cnt.K) (h : NM w p b d v g L) (hl : L.length ≤ 1000000) :
 Calls Tryz.prog 33 #[.pointer (some ⟨p, 0, none⟩)] w fun e w' => ∃ u, e = .returned u ∧ OE 66 w.heap.size w' u L ∧ Ext w w' := by
 have HM := hid (a4z w p b d v g L h);have c0 : w.cell? ⟨p, 2, none⟩ = some (.map (some b)) := h.box.cell 2;obtain ⟨l, hm, htr, hmem⟩ := h.map;have hlt := hm.lt;have hnd := hm.nodup;obtain ⟨es, clock, hr, hit, hlen⟩ := hm.range (t := 117) Tryz.underlying117
 have hll : l.length = L.length := by
  have hp : (l.map (·.1)).Perm L := (List.perm_ext_iff_of_nodup hnd (a97 h.asc)).2 hmem;have := hp.length_eq;rwa [List.length_map] at this
 have hasc := h.asc;have HIT := hid hit;have HLEN := hid hlen;have HSI := hid (fun (s : List Cnt.K) (hp : s.Perm (l.map (·.1))) hs => keysIs hp hs hnd hasc hmem)
 have HLL := hid hll;have HLT := hid hlt;clear h hm hlt hnd hit hlen hmem hll hasc htr
 go_enter Tryz.func33, Tryz.ntmps33
 go_wp2_with fail
 refine HM.o.mono ?_;rintro e w1 ⟨rfl, rfl⟩
 go_wp2
 have HW := hid (show Ext w (w.alloc (.mapIter (some b) clock #[] clock)) from (Ext.refl _).alloc _);clear hr c0;generalize w.alloc (.mapIter (some b) clock #[] clock) = w0 at *
 go_loopw [3] (fun o wr => ∃ seen S, Iter kV vB wr w.heap.size b es clock l seen ∧ S.Perm ((a8m es l seen).map (·.1)) ∧ OE 66 w.heap.size wr o S ∧ Ext w wr) (fun _ wr => (leftOf es (wr.iterSeen w.heap.size)).size)
 case atStart => exact ⟨#[], [], HIT.o, by rw [a6a]; exact List.Perm.refl _, OE.a2F _ _ _, HW.o⟩
 case round =>
 obtain ⟨seen, S, hit, hp, ho, hext⟩ := hrel;rename World => wA
 have HP := hid hp;have HO := hid ho;have HX := hid hext;have hsn : wA.iterSeen w.heap.size = seen := by unfold World.iterSeen; rw [hit.it]
 have HSN := hid hsn
 rcases hit.next (Nat.ne_of_gt HLT.o) 0 with ⟨h0, hrun⟩ | ⟨x, w1, seen', hrun, hit1, hx1, hlt1, hp1, hent⟩
 · have hrun : ∀ ty, (Instr.next (.pointer (some ⟨w.heap.size, 0, none⟩)) false ty).run Tryz.prog wA = .ok (.tuple #[.bool false]) wA := fun _ => hrun
   have hall := a7D HLEN.o h0;have HSL := hid (show S.Perm (l.map (·.1)) by rw [← hall]; exact HP.o)
   obtain ⟨A9, c9, rfl⟩ := HO.o.re.form;have hSl : S.length ≤ 1000000000 := by have := HSL.o.length_eq; have := HLL.o; rw [List.length_map] at *; omega
   clear h0 hall hp ho hext hit hsn
   go_wp2_with fail
   refine (b13 _ S w.heap.size wA HO.o hSl).mono ?_;rintro e w2 ⟨rfl, s, hps, hss, ho2, hg2⟩;have hsL := HSI.o s (hps.trans HSL.o) hss;subst hsL
   go_wp2
   go_ret
   exact ⟨_, rfl, ho2, HX.o.grown hg2 fun k hk => (HO.o.own.lt k hk).1⟩
 have hrun : ∀ ty, (Instr.next (.pointer (some ⟨w.heap.size, 0, none⟩)) false ty).run Tryz.prog wA = .ok (.tuple #[.bool true, kV x.1, vB x.2]) w1 := fun _ => hrun
 have ho1 := OE.a1Q HO.o hx1 (by rw [hit.it]; intro _ _ _ q; cases q)
 have hSl : S.length ≤ 1000000 := by
  have h1 := HP.o.length_eq
  have h2 : (a8m es l seen).length ≤ l.length := by
   unfold a8m;rw [List.length_map];refine Nat.le_trans (List.length_filter_le _ _) ?_;rw [List.length_zip]; omega
  have := HLL.o;rw [List.length_map] at h1;omega
 have HO1 := hid ho1;have HX1 := hid (HX.o.andM hx1 (Nat.le_refl _));have HI1 := hid hit1;have HL1 := hid hlt1
 have HP1 : Hid ((S ++ [x.1]).Perm ((a8m es l seen').map (·.1))) := hid (by
  have h1 := hp1.map (·.1);rw [List.map_append] at h1
  exact (HP.o.append_right [x.1]).trans h1.symm)
 obtain ⟨⟨⟨x1, x2⟩, x3, x4⟩, x5⟩ := x;dsimp only [kV, vB] at hrun hent;obtain ⟨A9, c9, rfl⟩ := HO1.o.re.form;obtain ⟨hxk, k1, k2, k3, k4⟩ := b1a w1 x1 x2 x3 x4;have HXK := hid hxk;clear hp ho hext hit hsn ho1 hx1 hit1 hlt1 hp1 hxk;have HLT2 := hid (b4p w1 x1 x2 x3 x4);have hxs : Ext w1 ((w1.alloc (.cells #[.int .i64 x1, .int .i64 x2, .int .i64 x3, .int .i64 x4] 66)).alloc (.cells #[.int .i64 x1, .int .i64 x2, .int .i64 x3, .int .i64 x4] 66)) := ((Ext.refl _).alloc _).alloc _;have HXS := hid hxs;have HO2 := hid (HO1.o.ext hxs);have HI2 := hid (HI1.o.ext hxs);have HX2 := hid (HX1.o.trans hxs);clear hxs
 go_wp2_with (at_builtin; refine a0y rfl b2v _ _ _ rfl w.heap.size _ _ S [((x1, x2), x3, x4)] rfl HO2.o rfl HLT2.o (by simp only [List.length_singleton]; omega) (by simp only [List.length_singleton]; unfold maxLen; omega) HX2.o.size ?_; intro v6 w6 ho6 hb6 hg6)
 have hi6 := a8g HI2.o HO2.o hg6;refine ⟨⟨seen', S ++ [((x1, x2), x3, x4)], hi6, HP1.o, ho6, Below.trans HX2.o hb6⟩, ?_⟩;rw [a6K hi6, HSN.o];exact HL1.o
attribute [local irreducible] RE OE a00
def jV (v : Value) (out : Int) (gc : Nat) : Value := .agg #[v, .int .i64 out, .pointer (some ⟨gc, 0, none⟩)]
theorem b1b (d : Nat) (v : Value) (g : G) (gc b : Nat) (L : List Cnt.S) (k : Cnt.K) (w : World) (hv : a00 d w v g.1) (hn : (gPl g).length ≤ 20) (hc : CM w gc b L) (hl : L.length ≤ 256) :
 Calls Tryz.prog 62 #[jV v g.2 gc, kV k] w fun e w' => e = .returned (.bool (!Fr.due g L k.1 k.2)) ∧ Ext w w' := by
 have HDU := hid (fun W (h : Ext w W) => b10 d v g gc b L k.1 k.2 W (hv.ext h) hn (hc.ext h) hl)
 obtain ⟨l, out⟩ := g;obtain ⟨⟨x1, x2⟩, x3, x4⟩ := k;simp only at hv HDU;generalize Fr.due (l, out) L (x1, x2) (x3, x4) = R at *;simp only [jV];obtain ⟨A, c, rfl⟩ := hv.form;clear hv hn hc hl;have HX := hid (show Ext w ((w.alloc (.cells #[.slice A l.length c, .int .i64 out, .pointer (some ⟨gc, 0, none⟩)] 124)).alloc (.cells #[.int .i64 x1, .int .i64 x2, .int .i64 x3, .int .i64 x4] 66)) from a0s [(#[.slice A l.length c, .int .i64 out, .pointer (some ⟨gc, 0, none⟩)], 124), (#[.int .i64 x1, .int .i64 x2, .int .i64 x3, .int .i64 x4], 66)] w);have HB0 := hid (show Blk ((w.alloc (.cells #[.slice A l.length c, .int .i64 out, .pointer (some ⟨gc, 0, none⟩)] 124)).alloc (.cells #[.int .i64 x1, .int .i64 x2, .int .i64 x3, .int .i64 x4] 66)) (w.heap.size) 124 #[.slice A l.length c, .int .i64 out, .pointer (some ⟨gc, 0, none⟩)] from a08 [(#[.slice A l.length c, .int .i64 out, .pointer (some ⟨gc, 0, none⟩)], 124), (#[.int .i64 x1, .int .i64 x2, .int .i64 x3, .int .i64 x4], 66)] w 0 _ _ rfl);have HB1 := hid (show Blk ((w.alloc (.cells #[.slice A l.length c, .int .i64 out, .pointer (some ⟨gc, 0, none⟩)] 124)).alloc (.cells #[.int .i64 x1, .int .i64 x2, .int .i64 x3, .int .i64 x4] 66)) (w.heap.size + 1) 66 #[.int .i64 x1, .int .i64 x2, .int .i64 x3, .int .i64 x4] from a08 [(#[.slice A l.length c, .int .i64 out, .pointer (some ⟨gc, 0, none⟩)], 124), (#[.int .i64 x1, .int .i64 x2, .int .i64 x3, .int .i64 x4], 66)] w 1 _ _ rfl)
 go_enter Tryz.func62, Tryz.ntmps62
 go_upto_region 1 with fail
 generalize w.heap.size = bn at *;generalize (w.alloc (.cells #[.slice A l.length c, .int .i64 out, .pointer (some ⟨gc, 0, none⟩)] 124)).alloc (.cells #[.int .i64 x1, .int .i64 x2, .int .i64 x3, .int .i64 x4] 66) = w0 at *;have c00 := HB0.o.c0;have c01 := HB0.o.c1;have c02 := HB0.o.c2;have c10 := HB1.o.c0;have c11 := HB1.o.c1;have c12 := HB1.o.c2;have c13 := HB1.o.c3
 go_wp2_with fail
 refine (HDU.o w0 HX.o).mono ?_;rintro e w1 ⟨rfl, he⟩;have HX := hid (HX.o.trans he);clear he
 go_wp2
 go_ret
 exact ⟨rfl, HX.o⟩
theorem egE : ∀ args w, (callFunc 62 args).run Tryz.prog w = .ok (.enter 62 args) w := enters_of Tryz.func62 (by kernel_rfl) rfl
theorem b2B (d : Nat) (v : Value) (g : G) (gc b : Nat) (C : List Cnt.S) (u : Value) (L : List Cnt.K) (w0 w : World) (hv : a00 d w0 v g.1) (hn : (gPl g).length ≤ 20) (hc : CM w0 gc b C) (hC : C.length ≤ 256)
 (hx : Ext w0 w) (ho : OE 66 w0.heap.size w u L) (hl : L.length ≤ 1000000) :
 Calls Tryz.prog 61 #[u, .func (.func 62) #[jV v g.2 gc] #[]] w fun e w' => ∃ u', e = .returned u' ∧ RE w' u' (L.filter fun k => Fr.due g C k.1 k.2) ∧ Ext w0 w' := by
 obtain ⟨bq, hb, hbb⟩ : ∃ b, (∀ k, u.ownBlock = some k → k = b) ∧ w0.heap.size ≤ b := by
  cases hv : u.ownBlock with
  | none => exact ⟨w.heap.size, (fun k h => nomatch h), hx.size⟩
  | some b => exact ⟨b, (fun k h => (Option.some.inj h).symm), (ho.own.lt b hv).1⟩
 have hback : ∀ W W', Ext w0 W → ExtQ (fun k => k = bq) W W' → Ext w0 W' := fun W W' h1 h2 =>
  Below.trans h1 ⟨h2.os, h2.tape, h2.output, h2.size, fun x hx => h2.block x (Nat.lt_of_lt_of_le hx h1.size) (by omega)⟩
 have h := b19 (σ := Unit) (fun _ k => (!Fr.due g C k.1 k.2, ())) 62 #[jV v g.2 gc] egE (fun _ W => Ext w0 W) (fun _ => False) bq w0.heap.size (fun _ W W' h1 h2 => hback W W' h1 h2) (fun h => h) u L w ho hb (fun _ h => h.elim) () hx (by omega)
  (fun j hj W hW => (b1b d v g gc b C L[j] W (hv.ext hW) hn (hc.ext hW) hC).mono fun e W' ⟨h1, h2⟩ => ⟨h1, hW.trans h2, ExtQ.of h2⟩)
 refine h.mono ?_;rintro e w' ⟨u', rfl, hu, _, hj, _⟩;refine ⟨u', rfl, ?_, hj⟩;have hk := keepU (fun k => !Fr.due g C k.1 k.2) L
 simp only [Bool.not_not] at hk;rw [← hk];exact hu.re
theorem b4r {L D : List Cnt.K} {i : Nat} (hi : i < D.length) : (L.filter fun x => !decide (x ∈ D.take i)).filter (fun x => !decide (x = D[i])) = L.filter fun x => !decide (x ∈ D.take (i + 1)) := by
 rw [List.filter_filter, List.take_succ_eq_append_getElem hi];refine List.filter_congr fun x _ => ?_
 have e : decide (x ∈ D.take i ++ [D[i]]) = (decide (x ∈ D.take i) || decide (x = D[i])) := by
  rw [← Bool.decide_or];exact decide_eq_decide.2 (by rw [List.mem_append, List.mem_singleton])
 rw [e]
 cases decide (x ∈ D.take i) <;> cases decide (x = D[i]) <;> rfl
theorem b4s {L : List Cnt.K} (f : Cnt.K → Bool) : (L.filter fun x => !decide (x ∈ (L.filter f).take (L.filter f).length)) = L.filter fun x => !f x := by
 rw [List.take_length];refine List.filter_congr fun x hx => ?_
 rw [show decide (x ∈ L.filter f) = f x from by
  rw [Bool.eq_iff_iff, decide_eq_true_eq, List.mem_filter]
  exact ⟨fun h => h.2, fun h => ⟨hx, h⟩⟩]
theorem b2C (w : World) (p b d : Nat) (v : Value) (g : G) (L : List Cnt.K) (gc bc : Nat) (C : List Cnt.S) (h : NM w p b d v g L) (hL : L.length ≤ 1000000) (hn : (gPl g).length ≤ 20) (hc : CM w gc bc C) (hC : C.length ≤ 256) :
 Calls Tryz.prog 31 #[.pointer (some ⟨p, 0, none⟩), .pointer (some ⟨gc, 0, none⟩)] w fun e w' => ∃ u, e = .returned u ∧ RE w' u (L.filter fun k => Fr.due g C k.1 k.2) ∧ NM w' p b d v g (L.filter fun k => !Fr.due g C k.1 k.2) ∧ ∃ w1, Ext w w1 ∧ ExtM b w1 w' := by
 have HM := hid (a4z w p b d v g L h);have HWT := hid (fun W (hW : Ext w W) => a4C W p b d v g L (h.ext hW) hL)
 have HDL := hid (fun w0 (hw : Ext w w0) u W (hx : Ext w0 W) (ho : OE 66 w0.heap.size W u L) => b2B d v g gc bc C u L w0 W (h.nod.ext hw) hn (hc.ext hw) hC hx ho hL)
 have HN := hid h;have H66 := hid (b4s (L := L) fun k => Fr.due g C k.1 k.2)
 obtain ⟨A, c, hvf⟩ := h.nod.form;subst hvf;obtain ⟨l, out⟩ := g;simp only [jV] at HDL;generalize hD : (L.filter fun k => Fr.due (l, out) C k.1 k.2) = D at *
 generalize hE : (L.filter fun k => !Fr.due (l, out) C k.1 k.2) = E at *
 have hDl : D.length ≤ 1000000 := by rw [← hD]; exact Nat.le_trans (List.length_filter_le _ _) hL
 have g0 : w.cell? ⟨p, 0, none⟩ = some (.slice A l.length c) := h.box.cell 0;have g1 : w.cell? ⟨p, 1, none⟩ = some (.int .i64 out) := h.box.cell 1;clear h hc hn hC hD hE
 go_enter Tryz.func31, Tryz.ntmps31
 go_wp2_with fail
 refine HM.o.mono ?_;rintro e w1 ⟨rfl, rfl⟩
 go_wp2
 refine a0o 9 [] [] Ext Ext (fun _ => True) (by kernel_rfl) (by kernel_rfl) (by kernel_rfl) (by kernel_rfl) (by kernel_rfl) (by kernel_rfl) (by kernel_rfl) (by rfl) (by rfl) (by kernel_rfl) (by kernel_rfl) (by kernel_rfl) (fun _ _ _ x y => x.trans y) Ext.refl (fun _ _ x => x) (Ext.refl _).drew (fun _ _ x _ => x) trivial ?_
 refine yl0 ?_;refine a06 (fun x W => OE 66 w.heap.size W x L) rfl rfl (a05 rfl) rfl (by first | exact a0e | exact (fun _ _ _ h k => Rd.ext h k) | exact (fun _ _ _ h k => RB.ext h k) | exact (fun _ _ _ h k => OB.ext h k) | exact (fun _ _ _ h k => RB.extS h k) | exact (fun _ _ _ h k => Rd.ext h (a02.ext k)) | exact (fun _ _ _ h k => RP.ext h k) | exact (fun _ _ _ h k => OP.ext h k) | exact (fun _ _ _ h k => Rd.extV h k) | exact (fun _ _ _ h k => RB.extV h k) | exact (fun _ _ _ h k => E0.ext h k) | exact (fun _ _ _ h k => O0.ext h k) | exact (fun _ _ _ h k => RE.ext h k) | exact (fun _ _ _ h k => RE.extD h k) | exact (fun _ _ _ h _ => h) | exact (fun _ _ _ ⟨n, h1, h2⟩ k => ⟨n, h1, k.st _ _ h2⟩) | exact (fun _ _ _ h k => OE.ext h k) | exact (fun _ _ _ ⟨n, h1, h2, h3⟩ k => ⟨n, h1, h2, h3.ext k⟩)) ?_ ?_
 · intro a w' hR h1 K hK
   have e1 : _ = _ := h1;go_simp;refine ((HWT.o w' hR).mono fun e w2 ⟨u, h1, h2, h3⟩ => (⟨u, h1, h2.low hR.size, h3⟩ : ∃ u, e = Ending.returned u ∧ OE 66 w.heap.size w2 u L ∧ Ext w' w2)).mono ?_
   rintro e w2 ⟨u, rfl, ho, he⟩;exact hK _ _ he ho
 refine ya ?_;refine yl2 g0 g1 ?_;refine ya1 ?_;refine a0Y rfl rfl (a05 rfl) Ext.refl rfl ?_; apply Exists.intro; refine ⟨?_, ?_⟩
 · intro a w' hR h1 h2
   have e1 : _ = _ := h1;have e2 : _ = _ := h2;have q1 := e1; rw [Array.getD_eq_getD_getElem?] at q1;have q2 := e2; rw [Array.getD_eq_getD_getElem?] at q2;go_simp;rfl
 refine a0Y rfl rfl (a05 rfl) Ext.refl rfl ?_; apply Exists.intro; refine ⟨?_, ?_⟩
 · intro a w' hR h1
   have e1 : _ = _ := h1;have q1 := e1; rw [Array.getD_eq_getD_getElem?] at q1;go_simp;rfl
 refine a0f ?_;intro w1 hx hS;rintro _ rfl;rintro u hu
 iterate 7 (rintro _ rfl)
 dsimp only [a1K];go_simp;clear hS g0 g1;have HU9 := hid (HDL.o w (Ext.refl w) u w1 hx hu);clear hu HDL HWT HM;simp only [a0x, List.drop_succ_cons, List.drop_zero]
 go_wp2_with fail
 refine HU9.o.mono ?_;rintro e w2 ⟨u2, rfl, hu2, he⟩;obtain ⟨AD, cD, rfl⟩ := hu2.form;have HU := hid hu2;have HX := hid he;have HN2 := hid (HN.o.ext he);clear hu2 he hx HU9 HN
 go_wp2
 go_loopw [23] (fun iv wr => ∃ i : Nat, i ≤ D.length ∧ iv = .int .i64 (i : Int) ∧ NM wr p b d (.slice A l.length c) (l, out) (L.filter fun x => !decide (x ∈ D.take i)) ∧ RE wr (.slice AD D.length cD) D ∧ ∃ w9, Ext w w9 ∧ ExtM b w9 wr) (fun iv _ => D.length - (intOf iv).toNat)
 case atStart =>
  refine ⟨0, Nat.zero_le _, rfl, ?_, HU.o, _, HX.o, ExtM.refl _ _⟩;rw [show (L.filter fun x => !decide (x ∈ D.take 0)) = L from by simp]
  exact HN2.o
 case round =>
 rename World => wr
 obtain ⟨i, hi, rfl, hn, hu, w9, hx1, hx2⟩ := hrel;have HNR := hid hn;have HUR := hid hu;have HX1 := hid hx1;have HX2 := hid hx2;clear hn hx1 hx2
 by_cases hlt : i < D.length
 · have r1 : (i : Int) < (D.length : Int) := by omega
   have r0 : 0 ≤ (i : Int) := by omega
   have HT := hid (b4r (L := L) hlt);have HLT := hid hlt;obtain ⟨bA, oA, rfl, hcA⟩ := hu.at_ (i := i) hlt;generalize D[i] = x at *;obtain ⟨⟨x1, x2⟩, x3, x4⟩ := x;have c0 : wr.cell? ⟨bA, oA + i * 4, none⟩ = some (.int .i64 x1) := hcA 0 _ rfl;have c1 : wr.cell? ⟨bA, oA + i * 4 + 1, none⟩ = some (.int .i64 x2) := hcA 1 _ rfl;have c2 : wr.cell? ⟨bA, oA + i * 4 + 2, none⟩ = some (.int .i64 x3) := hcA 2 _ rfl;have c3 : wr.cell? ⟨bA, oA + i * 4 + 3, none⟩ = some (.int .i64 x4) := hcA 3 _ rfl;clear hcA hu hlt hi
   go_wp2
   have hb := Blk.new wr 66 #[.int .i64 x1, .int .i64 x2, .int .i64 x3, .int .i64 x4];have hxs : Ext wr (wr.alloc (.cells #[.int .i64 x1, .int .i64 x2, .int .i64 x3, .int .i64 x4] 66)) := (Ext.refl _).alloc _;have HN3 := hid (HNR.o.ext hxs);have HU3 := hid (RE.ext HUR.o hxs);have HX3 := hid (HX2.o.trans (ExtM.of hxs));clear c0 c1 c2 c3 hxs;generalize wr.alloc (.cells #[.int .i64 x1, .int .i64 x2, .int .i64 x3, .int .i64 x4] 66) = w3 at *;have a0 := hb.c0;have a1 := hb.c1;have a2 := hb.c2;have a3 := hb.c3;have g2 : w3.cell? ⟨p, 2, none⟩ = some (.map (some b)) := HN3.o.box.cell 2;clear hb;refine a0o 5 [] [] Ext Ext (fun _ => True) (by kernel_rfl) (by kernel_rfl) (by kernel_rfl) (by kernel_rfl) (by kernel_rfl) (by kernel_rfl) (by kernel_rfl) (by rfl) (by rfl) (by kernel_rfl) (by kernel_rfl) (by kernel_rfl) (fun _ _ _ x y => x.trans y) Ext.refl (fun _ _ x => x) (Ext.refl _).drew (fun _ _ x _ => x) trivial ?_
   refine ya ?_;refine yl1 g2 ?_;refine yl4 a0 a1 a2 a3 ?_;refine a0f ?_;intro w4 hx hS
   iterate 5 (rintro _ rfl)
   dsimp only [a1K];go_simp;obtain ⟨w5, hdel, hxm, hn5⟩ := (HN3.o.ext hx).del ((x1, x2), x3, x4);dsimp only [kV] at hdel;have HN5 := hid hn5;have HU5 := hid (a4B (RE.ext HU3.o hx) hxm);have HX5 := hid ((HX3.o.trans (ExtM.of hx)).trans hxm);clear hn5 hxm hx hS a0 a1 a2 a3 g2;simp only [a0x, List.drop_succ_cons, List.drop_zero]
   go_wp2
   exact ⟨⟨i + 1, HLT.o, by go_num, by rw [← HT.o]; exact HN5.o, HU5.o, _, HX1.o, HX5.o⟩, by have := HLT.o; simp [intOf]; omega⟩
 obtain rfl : i = D.length := by omega
 have r1 : ¬ (D.length : Int) < (D.length : Int) := by omega
 clear hi hlt
 go_wp2
 go_ret
 exact ⟨_, rfl, hu, by rw [← H66.o]; exact HNR.o, _, HX1.o, HX2.o⟩
end Go.Proofs.YtdkejfjcchlnpaaGreat
namespace Go.Ox.Gr
open Go.RowKit
def b1c : List Nd := [.mk 10 [] 0 0 0 [], .mk 11 [] 0 0 0 [], .mk 6 [0, 1] 23 0 0 [], .mk 2 [2] 3 0 0 [], .mk 2 [3] 5 1 0 [], .mk 8 [0, 4] 0 0 0 [], .mk 7 [5] 0 0 0 []]
def a8h (n : Int) : List Nd := [.mk 1 [] 0 0 0 [], .mk 1 [] 0 0 1 [], .mk 9 [1] 0 0 n b1c]
def a2j : List Nd := a8h 9
def ndC (op kind fa a : Int) (u b : Value) : List Value := [.int .i64 op, u, .int .i64 kind, .int .i64 fa, .int .i64 a, b]
theorem NdQ.mk {d : Nat} {w : World} {op kind fa a : Int} {u b : Value} {ins : List Int} {body : List Nd} (hu : RE w u ins) (hb : a00 d w b body) : NdQ (a00 d) w (ndC op kind fa a u b) (.mk op ins kind fa a body) := ⟨u, b, rfl, hu, hb⟩
def a6L (Q : List Value → Nd → Prop) : List (List Value) → List Nd → Prop
 | [], [] => True
 | r :: rs, x :: xs => (r.length = 6 ∧ Q r x) ∧ a6L Q rs xs
 | _, _ => False
theorem a6L.len {Q : List Value → Nd → Prop} : ∀ {rs : List (List Value)} {xs : List Nd}, a6L Q rs xs → rs.length = xs.length
 | [], [], _ => rfl
 | [], _ :: _, h => h.elim
 | _ :: _, [], h => h.elim
 | _ :: rs, _ :: xs, h => by simp [a6L.len h.2]
theorem a6L.at_ {Q : List Value → Nd → Prop} : ∀ {rs : List (List Value)} {xs : List Nd}, a6L Q rs xs → ∀ (i : Nat) (r : List Value) (x : Nd), rs[i]? = some r → xs[i]? = some x → r.length = 6 ∧ Q r x
 | [], [], _, _, _, _, h, _ => by simp at h
 | [], _ :: _, h, _, _, _, _, _ => h.elim
 | _ :: _, [], h, _, _, _, _, _ => h.elim
 | r :: rs, x :: xs, h, i, r', x', hr, hx => by
  cases i with
  | zero => simp at hr hx; subst hr; subst hx; exact h.1
  | succ i => simp at hr hx; exact a6L.at_ h.2 i r' x' hr hx
theorem a00.lit {w w' : World} {d n : Nat} (cells : Array Value) (E : TypeId) (rows : List (List Value)) (l : List Nd) (hw : w' = w.alloc (.cells cells E)) (hn : rows.length = n) (hm : n ≤ maxLen) (hc : cells.toList = rows.flatten) (hcs : cells.size = n * 6) (h : a6L (NdQ (a00 d) w') rows l) :
 a00 (d + 1) w' (.slice (some ⟨w.heap.size, 0, none⟩) n n) l := by
 refine a00.a9x ⟨rows, ?_, h.len, h.at_⟩;rw [hn, ← hc, hw];exact Rd.a3t (base := w.heap.size) (World.ownsRow_lit w cells n (Nat.le_refl _) hm hcs)
end Go.Ox.Gr
namespace Go.Proofs.YtdkejfjcchlnpaaGreat
open Go.RowKit Go.Ox Go.Ox.Gr
theorem b1d {n : Int} {w w0 w1 w2 w3 w4 w5 w6 w7 w8 : World}
 (h0 : w0 = w.alloc (.cells #[.slice (some ⟨w.heap.size + 1 + 1 + 1 + 1 + 1 + 1 + 1 + 1, 0, none⟩) 3 3, .int .i64 2] 24))
 (h1 : w1 = w0.alloc (.cells #[.int .i64 1] 3))
 (h2 : w2 = w1.alloc (.cells #[.int .i64 0, .int .i64 1] 3))
 (h3 : w3 = w2.alloc (.cells #[.int .i64 2] 3))
 (h4 : w4 = w3.alloc (.cells #[.int .i64 3] 3))
 (h5 : w5 = w4.alloc (.cells #[.int .i64 0, .int .i64 4] 3))
 (h6 : w6 = w5.alloc (.cells #[.int .i64 5] 3))
 (h7 : w7 = w6.alloc (.cells #[.int .i64 10, .slice none 0 0, .int .i64 0, .int .i64 0, .int .i64 0, .slice none 0 0, .int .i64 11, .slice none 0 0, .int .i64 0, .int .i64 0, .int .i64 0, .slice none 0 0,
  .int .i64 6, .slice (some ⟨w.heap.size + 1 + 1, 0, none⟩) 2 2, .int .i64 23, .int .i64 0, .int .i64 0, .slice none 0 0, .int .i64 2, .slice (some ⟨w.heap.size + 1 + 1 + 1, 0, none⟩) 1 1, .int .i64 3, .int .i64 0, .int .i64 0, .slice none 0 0,
  .int .i64 2, .slice (some ⟨w.heap.size + 1 + 1 + 1 + 1, 0, none⟩) 1 1, .int .i64 5, .int .i64 1, .int .i64 0, .slice none 0 0, .int .i64 8, .slice (some ⟨w.heap.size + 1 + 1 + 1 + 1 + 1, 0, none⟩) 2 2, .int .i64 0, .int .i64 0, .int .i64 0, .slice none 0 0,
  .int .i64 7, .slice (some ⟨w.heap.size + 1 + 1 + 1 + 1 + 1 + 1, 0, none⟩) 1 1, .int .i64 0, .int .i64 0, .int .i64 0, .slice none 0 0] 101))
 (h8 : w8 = w7.alloc (.cells #[.int .i64 1, .slice none 0 0, .int .i64 0, .int .i64 0, .int .i64 0, .slice none 0 0, .int .i64 1, .slice none 0 0, .int .i64 0, .int .i64 0, .int .i64 1, .slice none 0 0,
  .int .i64 9, .slice (some ⟨w.heap.size + 1, 0, none⟩) 1 1, .int .i64 0, .int .i64 0, .int .i64 n, .slice (some ⟨w.heap.size + 1 + 1 + 1 + 1 + 1 + 1 + 1, 0, none⟩) 7 7] 101)) :
 Blk w8 w.heap.size 24 #[.slice (some ⟨w.heap.size + 1 + 1 + 1 + 1 + 1 + 1 + 1 + 1, 0, none⟩) 3 3, .int .i64 2] ∧ a00 2 w8 (.slice (some ⟨w.heap.size + 1 + 1 + 1 + 1 + 1 + 1 + 1 + 1, 0, none⟩) 3 3) (a8h n) ∧ Ext w w8 := by
 have s0 : w0.heap.size = w.heap.size + 1 := by rw [h0]; simp
 have s1 : w1.heap.size = w.heap.size + 1 + 1 := by rw [h1, ← s0]; simp
 have s2 : w2.heap.size = w.heap.size + 1 + 1 + 1 := by rw [h2, ← s1]; simp
 have s3 : w3.heap.size = w.heap.size + 1 + 1 + 1 + 1 := by rw [h3, ← s2]; simp
 have s4 : w4.heap.size = w.heap.size + 1 + 1 + 1 + 1 + 1 := by rw [h4, ← s3]; simp
 have s5 : w5.heap.size = w.heap.size + 1 + 1 + 1 + 1 + 1 + 1 := by rw [h5, ← s4]; simp
 have s6 : w6.heap.size = w.heap.size + 1 + 1 + 1 + 1 + 1 + 1 + 1 := by rw [h6, ← s5]; simp
 have s7 : w7.heap.size = w.heap.size + 1 + 1 + 1 + 1 + 1 + 1 + 1 + 1 := by rw [h7, ← s6]; simp
 have b0 : Blk w0 w.heap.size 24 #[.slice (some ⟨w.heap.size + 1 + 1 + 1 + 1 + 1 + 1 + 1 + 1, 0, none⟩) 3 3, .int .i64 2] := by rw [h0]; exact Blk.new _ _ _
 have r1 : RE w1 (.slice (some ⟨w.heap.size + 1, 0, none⟩) 1 1) ([1] : List Int) := by rw [← s0, h1]; exact RE.lit w0 #[.int .i64 1] 3 1 [1] rfl (by omega) rfl
 have r2 : RE w2 (.slice (some ⟨w.heap.size + 1 + 1, 0, none⟩) 2 2) ([0, 1] : List Int) := by rw [← s1, h2]; exact RE.lit w1 #[.int .i64 0, .int .i64 1] 3 2 [0, 1] rfl (by omega) rfl
 have r3 : RE w3 (.slice (some ⟨w.heap.size + 1 + 1 + 1, 0, none⟩) 1 1) ([2] : List Int) := by rw [← s2, h3]; exact RE.lit w2 #[.int .i64 2] 3 1 [2] rfl (by omega) rfl
 have r4 : RE w4 (.slice (some ⟨w.heap.size + 1 + 1 + 1 + 1, 0, none⟩) 1 1) ([3] : List Int) := by rw [← s3, h4]; exact RE.lit w3 #[.int .i64 3] 3 1 [3] rfl (by omega) rfl
 have r5 : RE w5 (.slice (some ⟨w.heap.size + 1 + 1 + 1 + 1 + 1, 0, none⟩) 2 2) ([0, 4] : List Int) := by rw [← s4, h5]; exact RE.lit w4 #[.int .i64 0, .int .i64 4] 3 2 [0, 4] rfl (by omega) rfl
 have r6 : RE w6 (.slice (some ⟨w.heap.size + 1 + 1 + 1 + 1 + 1 + 1, 0, none⟩) 1 1) ([5] : List Int) := by rw [← s5, h6]; exact RE.lit w5 #[.int .i64 5] 3 1 [5] rfl (by omega) rfl
 have e1 : Ext w0 w1 := by rw [h1]; exact (Ext.refl _).alloc _
 have e2 : Ext w1 w2 := by rw [h2]; exact (Ext.refl _).alloc _
 have e3 : Ext w2 w3 := by rw [h3]; exact (Ext.refl _).alloc _
 have e4 : Ext w3 w4 := by rw [h4]; exact (Ext.refl _).alloc _
 have e5 : Ext w4 w5 := by rw [h5]; exact (Ext.refl _).alloc _
 have e6 : Ext w5 w6 := by rw [h6]; exact (Ext.refl _).alloc _
 have e7 : Ext w6 w7 := by rw [h7]; exact (Ext.refl _).alloc _
 have e8 : Ext w7 w8 := by rw [h8]; exact (Ext.refl _).alloc _
 have e0 : Ext w w0 := by rw [h0]; exact (Ext.refl _).alloc _
 have n7 : a00 1 w7 (.slice (some ⟨w.heap.size + 1 + 1 + 1 + 1 + 1 + 1 + 1, 0, none⟩) 7 7) b1c := by
  rw [← s6]
  refine a00.lit _ 101 [ndC 10 0 0 0 (.slice none 0 0) (.slice none 0 0), ndC 11 0 0 0 (.slice none 0 0) (.slice none 0 0), ndC 6 23 0 0 (.slice (some ⟨w.heap.size + 1 + 1, 0, none⟩) 2 2) (.slice none 0 0),
   ndC 2 3 0 0 (.slice (some ⟨w.heap.size + 1 + 1 + 1, 0, none⟩) 1 1) (.slice none 0 0), ndC 2 5 1 0 (.slice (some ⟨w.heap.size + 1 + 1 + 1 + 1, 0, none⟩) 1 1) (.slice none 0 0),
   ndC 8 0 0 0 (.slice (some ⟨w.heap.size + 1 + 1 + 1 + 1 + 1, 0, none⟩) 2 2) (.slice none 0 0), ndC 7 0 0 0 (.slice (some ⟨w.heap.size + 1 + 1 + 1 + 1 + 1 + 1, 0, none⟩) 1 1) (.slice none 0 0)] b1c h7 rfl (by unfold maxLen; omega) rfl rfl ?_
  have f2 := (((r2.ext e3).ext e4).ext e5).ext e6 |>.ext e7;have f3 := ((r3.ext e4).ext e5).ext e6 |>.ext e7;have f4 := (r4.ext e5).ext e6 |>.ext e7;have f5 := (r5.ext e6).ext e7;have f6 := r6.ext e7;exact ⟨⟨rfl, NdQ.mk (OE.a2F 3 0 _).re (a00.nil _ _)⟩, ⟨rfl, NdQ.mk (OE.a2F 3 0 _).re (a00.nil _ _)⟩, ⟨rfl, NdQ.mk f2 (a00.nil _ _)⟩, ⟨rfl, NdQ.mk f3 (a00.nil _ _)⟩, ⟨rfl, NdQ.mk f4 (a00.nil _ _)⟩, ⟨rfl, NdQ.mk f5 (a00.nil _ _)⟩, ⟨rfl, NdQ.mk f6 (a00.nil _ _)⟩, trivial⟩
 refine ⟨(((((((b0.ext e1).ext e2).ext e3).ext e4).ext e5).ext e6).ext e7).ext e8, ?_, ((((((((e0.trans e1).trans e2).trans e3).trans e4).trans e5).trans e6).trans e7).trans e8)⟩;rw [← s7];refine a00.lit _ 101 [ndC 1 0 0 0 (.slice none 0 0) (.slice none 0 0), ndC 1 0 0 1 (.slice none 0 0) (.slice none 0 0), ndC 9 0 0 n (.slice (some ⟨w.heap.size + 1, 0, none⟩) 1 1) (.slice (some ⟨w.heap.size + 1 + 1 + 1 + 1 + 1 + 1 + 1, 0, none⟩) 7 7)] (a8h n) h8 rfl (by unfold maxLen; omega) rfl rfl ?_
 have f1 := ((((((r1.ext e2).ext e3).ext e4).ext e5).ext e6).ext e7).ext e8;exact ⟨⟨rfl, NdQ.mk (OE.a2F 3 0 _).re (a00.nil _ _)⟩, ⟨rfl, NdQ.mk (OE.a2F 3 0 _).re (a00.nil _ _)⟩, ⟨rfl, NdQ.mk f1 (n7.ext e8)⟩, trivial⟩
attribute [local irreducible] RE OE a00
theorem a98 (n : Int) (w : World) : Calls Tryz.prog 36 #[.int .i64 n] w fun e w' => ∃ u, e = .returned (gAg u 2) ∧ a00 2 w' u (a8h n) ∧ Ext w w' := by
 have HM := hid (b1d (n := n) (w := w) rfl rfl rfl rfl rfl rfl rfl rfl rfl)
 go_enter Tryz.func36, Tryz.ntmps36
 go_upto_region 1 with fail
 go_wp2
 obtain ⟨hb, hn, hx⟩ := HM.o;have y0 := hb.cell 0;have y1 := hb.cell 1;exact bodyPost_ret (v := gAg _ 2) (by simp [results, Tryz.results36, go_sem, y0, y1]) rfl ⟨_, rfl, hn, hx⟩
theorem b1e (w : World) : Calls Tryz.prog 36 #[.int .i64 9] w fun e w' => ∃ u, e = .returned (gAg u 2) ∧ a00 2 w' u a2j ∧ Ext w w' := a98 9 w
end Go.Proofs.YtdkejfjcchlnpaaGreat
namespace Go.Proofs.YtdkejfjcchlnpaaGreat.Ct
open Go.RowKit Go.Ox Go.Shelf Mo
attribute [local irreducible] OP RP
theorem b4t (w : World) (g b : Nat) (L : List Cnt.S) (h : CM w g b L) (k : Cnt.K) (n : Int) :
 Calls Tryz.prog 14 #[.pointer (some ⟨g, 0, none⟩), pV2 k.1, pV2 k.2, .int .i64 n] w fun e w' => e = .returned (.int .i64 (Cnt.add L k n).2) ∧ CM w' g b (Cnt.add L k n).1 ∧ ExtM b w w' := by
 unfold Cnt.add
 cases hk : Mom.ok k.2 with
 | false =>
  rw [if_pos rfl];exact (b4k w g b L h k n hk).mono fun _ _ ⟨h1, h2⟩ => ⟨h1, h.ext h2, ExtM.of h2⟩
 | true =>
 rw [if_neg (by simp)]
 by_cases hr : n < - Cnt.was L k ∨ 1073741824 - Cnt.was L k < n
 · rw [if_pos hr]
   exact (b4l w g b L h k n hk hr).mono fun _ _ ⟨h1, h2⟩ => ⟨h1, h.ext h2, ExtM.of h2⟩
 rw [if_neg hr]
 by_cases hz : Cnt.was L k + n = 0
 · exact (add_zero w g b L h k n hk (by omega) (by omega) hz).mono fun _ _ ⟨h1, h2, w1, h3, h4⟩ => ⟨h1, h2, (ExtM.of h3).trans h4⟩
 exact (add_ok w g b L h k n hk (by omega) (by omega) hz).mono fun _ _ ⟨h1, h2, w1, h3, h4⟩ => ⟨h1, h2, (ExtM.of h3).trans h4⟩
end Go.Proofs.YtdkejfjcchlnpaaGreat.Ct
