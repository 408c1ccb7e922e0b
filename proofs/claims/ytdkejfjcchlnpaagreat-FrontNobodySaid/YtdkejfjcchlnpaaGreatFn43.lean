/-
  Fr7, AskDel, packed: what the claim needs of them.
-/
import Derived.Test.YtdkejfjcchlnpaaGreatFn41
import Derived.Test.YtdkejfjcchlnpaaGreatFn42
set_option maxHeartbeats 40000000
open Go.Lib (hid)
set_option linter.unusedSimpArgs false
set_option linter.unusedVariables false
set_option maxRecDepth 100000
namespace Go.Ox.Fr
open Go.Ox.Gr Go.Ox.Pl Go.Proofs.YtdkejfjcchlnpaaGreat Go.Proofs.YtdkejfjcchlnpaaGreat.Mo Go.Proofs.YtdkejfjcchlnpaaGreat.Ct
def bfK (k x : Cnt.K) : Bool := decide (Cnt.a6I x k < 0)
theorem b15 {k x : Cnt.K} : bfK k x = true ↔ Cnt.klt x k := by unfold bfK; rw [decide_eq_true_eq]; exact Cnt.a7s
def b39 (L : List Cnt.K) (k : Cnt.K) : List Cnt.K := L.takeWhile (bfK k) ++ k :: L.dropWhile (bfK k)
theorem b16 {k : Cnt.K} : ∀ {L : List Cnt.K}, L.Pairwise Cnt.klt → ∀ y ∈ L.dropWhile (bfK k), ¬ Cnt.klt y k
 | [], _, y, hy => by cases hy
 | x :: l, h, y, hy => by
  have h2 := List.pairwise_cons.1 h
  by_cases hx : bfK k x = true
  · rw [List.dropWhile_cons_of_pos hx] at hy
    exact b16 h2.2 y hy
  · rw [List.dropWhile_cons_of_neg hx] at hy
    rw [b15] at hx
    rcases List.mem_cons.1 hy with rfl | hy
    · exact hx
    · exact fun hk => hx (Cnt.a0B (h2.1 y hy) hk)
theorem b2w {L : List Cnt.K} {k x : Cnt.K} : x ∈ b39 L k ↔ x ∈ L ∨ x = k := by
 have e : x ∈ L ↔ x ∈ L.takeWhile (bfK k) ∨ x ∈ L.dropWhile (bfK k) := by
  rw [← List.mem_append, List.takeWhile_append_dropWhile]
 unfold b39;rw [e, List.mem_append, List.mem_cons];constructor
 · rintro (h | h | h)
   · exact .inl (.inl h)
   · exact .inr h
   exact .inl (.inr h)
 rintro ((h | h) | h)
 · exact .inl h
 · exact .inr (.inr h)
 exact .inr (.inl h)
theorem b2x {L : List Cnt.K} {k : Cnt.K} (h : L.Pairwise Cnt.klt) (hk : k ∉ L) : (b39 L k).Pairwise Cnt.klt := by
 have h2 : (L.takeWhile (bfK k) ++ L.dropWhile (bfK k)).Pairwise Cnt.klt := by rw [List.takeWhile_append_dropWhile]; exact h
 rw [List.pairwise_append] at h2;obtain ⟨a1, a2, a3⟩ := h2
 have hd : ∀ y ∈ L.dropWhile (bfK k), Cnt.klt k y := fun y hy => by
  rcases Cnt.a1y k y with q | q | q
  · exact q
  · subst q; exact absurd ((List.dropWhile_sublist _).subset hy) hk
  exact absurd q (b16 h y hy)
 unfold b39;rw [List.pairwise_append];refine ⟨a1, List.pairwise_cons.2 ⟨hd, a2⟩, fun x hx y hy => ?_⟩
 have hx2 : Cnt.klt x k := b15.1 (List.all_eq_true.1 List.all_takeWhile x hx)
 rcases List.mem_cons.1 hy with rfl | hy
 · exact hx2
 exact a3 x hx y hy
theorem keysK {s L : List Cnt.K} (h1 : s.Pairwise Cnt.klt) (h2 : L.Pairwise Cnt.klt) (h : ∀ x, x ∈ s ↔ x ∈ L) : s = L := by
 have h3 := Cnt.a4R (a := s.map fun k => (k, (0 : Int))) (b := L.map fun k => (k, (0 : Int))) (List.pairwise_map.2 h1) (List.pairwise_map.2 h2) fun m => by
  rw [List.mem_map, List.mem_map];exact ⟨fun ⟨x, hx, e⟩ => ⟨x, (h x).1 hx, e⟩, fun ⟨x, hx, e⟩ => ⟨x, (h x).2 hx, e⟩⟩
 have h4 := congrArg (List.map (·.1)) h3;simpa [List.map_map, Function.comp_def] using h4
def b17 (g : G) (L : List Cnt.K) (q : P2) (m : Mom.M) : Int := if may g q ≠ 0 then may g q else if Mom.ok m = true then (if (q, m) ∈ L then 5 else 0) else 40
def b2y (g : G) (L : List Cnt.K) (q : P2) (m : Mom.M) : List Cnt.K := if b17 g L q m = 0 then b39 L (q, m) else L
end Go.Ox.Fr
namespace Go.Ox.Gr
open Go.RowKit Go.Ox
theorem b18 {β : Type} {b k : Nat} {w w' : World} {v : Value} {ls : List β} {Q : World → List Value → β → Prop} (h : RS k Q w v ls) (hq : ∀ r x, x ∈ ls → Q w r x → Q w' r x) (he : ExtM b w w') : RS k Q w' v ls := by
 obtain ⟨rows, h1, h2, h3⟩ := h.ex;exact ⟨rows, Rd.a1Q h1 he, h2, fun i r x hr hx => ⟨(h3 i r x hr hx).1, hq r x (List.mem_of_getElem? hx) (h3 i r x hr hx).2⟩⟩
theorem a00.a1Q {b : Nat} {w w' : World} : ∀ {d : Nat} {v : Value} {l : List Nd}, a00 d w v l → ExtM b w w' → a00 d w' v l
 | 0, v, l, h, he => b18 h (fun _ _ _ q => q) he
 | d + 1, v, l, h, he => b18 h (fun r x _ ⟨u, b, h1, h2, h3⟩ => ⟨u, b, h1, Rd.a1Q h2 he, a00.a1Q h3 he⟩) he
end Go.Ox.Gr
namespace Go.Proofs.YtdkejfjcchlnpaaGreat
open Go.RowKit Go.Ox Go.Ox.Gr Go.Shelf Mo Ct
attribute [local irreducible] RE OE a00
theorem NM.put {w : World} {p b d : Nat} {v : Value} {g : G} {L : List Cnt.K} (h : NM w p b d v g L) (k : Cnt.K) (hk : k ∉ L) :
 ∃ w', (Instr.mapUpdate 117 (.map (some b)) (kV k) (.bool true)).run Tryz.prog w = .ok () w' ∧ ExtM b w w' ∧ NM w' p b d v g (Fr.b39 L k) := by
 obtain ⟨l, h1, h2, h3⟩ := h.map;obtain ⟨w', l', h4, h5, h6, h7⟩ := h1.a6Q keyA Tryz.underlying117 k true;refine ⟨w', h4, h6, h.box.a1Q h6 h.ne, h.nod.a1Q h6, h.ne, ⟨l', h5, ?_, ?_⟩, Fr.b2x h.asc hk⟩
 · intro x hx
   rcases (h7 x).1 hx with ⟨q, _⟩ | q
   · exact h2 x q
   rw [q]
 intro x;rw [Fr.b2w, ← h3, List.mem_map];constructor
 · rintro ⟨y, hy, rfl⟩
   rcases (h7 y).1 hy with ⟨q, _⟩ | q
   · exact .inl (List.mem_map.2 ⟨y, q, rfl⟩)
   exact .inr (by rw [q])
 rintro (hx | rfl)
 · obtain ⟨y, hy, rfl⟩ := List.mem_map.1 hx
   exact ⟨y, (h7 y).2 (.inl ⟨hy, fun e => hk ((h3 k).1 (List.mem_map.2 ⟨y, hy, e⟩))⟩), rfl⟩
 exact ⟨(x, true), (h7 _).2 (.inr rfl), rfl⟩
theorem b2z (d : Nat) (v : Value) (g : G) (w : World) (hv : a00 d w v g.1) (hok : gOk g = true) :
 Calls Tryz.prog 25 #[gAg v g.2] w fun e w' => ∃ p b u, e = .returned (.tuple #[.pointer (some ⟨p, 0, none⟩), .int .i64 0]) ∧ w.heap.size ≤ p ∧ w.heap.size ≤ b ∧ NM w' p b 2 u g [] ∧ Ext w w' := by
 have hf := a7f (l := g.1) (out := g.2) hok;have HPO := hid (fun W (h : Ext w W) => b14 d v g.1 g.2 W (hv.ext h) hok hf.1.put hf.2)
 have HGG := hid (fun u W (h : RB W u (grL (g.1, g.2))) => show Calls Tryz.prog 58 #[u] W fun e w' => ∃ u, e = .returned (.tuple #[gAg u g.2, .int .i64 0]) ∧ a00 2 w' u g.1 ∧ Ext W w' from by
  have h2 := b0c u _ W h (b40 hf.1 hf.2);rw [b3Y (g := (g.1, g.2)) hf.1 hf.2 hok] at h2;refine h2.mono ?_;rintro e w' ⟨u, h3, h4, h5⟩
  exact ⟨u, h3, h4 w' (ExtQ.refl _ _), h5⟩)
 obtain ⟨l, out⟩ := g;simp only at hv HPO HGG;generalize grL (l, out) = GL at *;clear hok hf;obtain ⟨A, c, rfl⟩ := hv.form;have HX := hid ((Ext.refl w).alloc (.cells #[.slice A l.length c, .int .i64 out] 24));have HB := hid (Blk.new w 24 #[.slice A l.length c, .int .i64 out]);have HS := hid (show w.heap.size ≤ w.heap.size from Nat.le_refl _);have hmm := @run_makeMap Tryz.prog;clear hv
 go_enter Tryz.func25, Tryz.ntmps25
 go_upto_region 1 with fail
 generalize hbn : w.heap.size = bn at HB ⊢;generalize w.alloc (.cells #[.slice A l.length c, .int .i64 out] 24) = w0 at *;have c0 := HB.o.c0;have c1 := HB.o.c1;clear hbn
 go_wp2_with fail
 refine (HPO.o w0 HX.o).mono ?_;rintro e w1 ⟨u, rfl, hu, he⟩;obtain ⟨Au, cu, rfl⟩ := hu.rb.form;have HX := hid (HX.o.trans he);have HG := hid (HGG.o _ w1 hu.rb);clear he c0 c1 hu
 go_wp2_with fail
 refine HG.o.mono ?_;rintro e w2 ⟨u2, rfl, hu2, he⟩;obtain ⟨A2, c2, rfl⟩ := hu2.form;have HX := hid (HX.o.trans he);have HU := hid hu2;clear he hu2 HG HGG HPO HB
 go_wp2
 go_ret2
 have hs2 : w.heap.size ≤ w2.heap.size := HX.o.size;have hb1 := Blk.new w2 24 #[.slice A2 l.length c2, .int .i64 out];have hm := a29.new (kV := kV) (vV := vB) (w2.alloc (.cells #[.slice A2 l.length c2, .int .i64 out] 24));have hb := Blk.new ((w2.alloc (.cells #[.slice A2 l.length c2, .int .i64 out] 24)).alloc (.map #[] 0)) 119 #[.slice A2 l.length c2, .int .i64 out, .map (some (w2.heap.size + 1))];have hz1 : (w2.alloc (.cells #[.slice A2 l.length c2, .int .i64 out] 24)).heap.size = w2.heap.size + 1 := by simp
 have hz2 : ((w2.alloc (.cells #[.slice A2 l.length c2, .int .i64 out] 24)).alloc (.map #[] 0)).heap.size = w2.heap.size + 1 + 1 := by simp
 rw [hz1] at hm;rw [hz2] at hb;refine ⟨w2.heap.size + 1 + 1, w2.heap.size + 1, .slice A2 l.length c2, ?_, by omega, by omega, ⟨hb, ?_, by omega, ⟨[], ?_, by simp, by simp⟩, List.Pairwise.nil⟩, ?_⟩
 · first | rfl | simp
 · exact ((HU.o.ext ((Ext.refl _).alloc _)).ext ((Ext.refl _).alloc _)).ext ((Ext.refl _).alloc _)
 · exact hm.ext ((Ext.refl _).alloc _)
 exact ((HX.o.alloc _).alloc _).alloc _
theorem a5X (w : World) (p b d : Nat) (v : Value) (g : G) (L : List Cnt.K) (q : Pl.P2) (m : Mom.M) (hm : NM w p b d v g L) :
 Calls Tryz.prog 27 #[.pointer (some ⟨p, 0, none⟩), plV q, mV m] w fun e w' => e = .returned (.int .i64 (Fr.b17 g L q m)) ∧ NM w' p b d v g (Fr.b2y g L q m) ∧ ∃ w1, Ext w w1 ∧ ExtM b w1 w' := by
 have HMD := hid (fun W (h : Ext w W) => a4z W p b d v g L (hm.ext h))
 have HMY := hid (fun W (h : Ext w W) => a3Q d v g q W (hm.ext h).nod)
 have HCK := hid (fun W => Mo.a0p m W)
 have HLK := hid (fun W (h : Ext w W) => (hm.ext h).look (q, m))
 have HPT := hid (fun W (h : Ext w W) (hk : (q, m) ∉ L) => (hm.ext h).put (q, m) hk)
 have HN := hid hm;have HE := hid (show Fr.b17 g L q m = if Fr.may g q ≠ 0 then Fr.may g q else if Mom.ok m = true then (if (q, m) ∈ L then 5 else 0) else 40 from rfl)
 have HA := hid (show Fr.b2y g L q m = if Fr.b17 g L q m = 0 then Fr.b39 L (q, m) else L from rfl)
 generalize Fr.b2y g L q m = LA at *;generalize Fr.b17 g L q m = EA at *;generalize Fr.may g q = MY at *;generalize Mom.ok m = om at *;obtain ⟨A, c, hvf⟩ := hm.nod.form;subst hvf;obtain ⟨l, out⟩ := g;obtain ⟨q1, q2⟩ := q;obtain ⟨m1, m2⟩ := m;clear hm;have HX := hid (show Ext w ((w.alloc (.cells #[.int .i64 q1, .int .i64 q2] 27)).alloc (.cells #[.int .i64 m1, .int .i64 m2] 29)) from a0s [(#[.int .i64 q1, .int .i64 q2], 27), (#[.int .i64 m1, .int .i64 m2], 29)] w);have HB0 := hid (show Blk ((w.alloc (.cells #[.int .i64 q1, .int .i64 q2] 27)).alloc (.cells #[.int .i64 m1, .int .i64 m2] 29)) (w.heap.size) 27 #[.int .i64 q1, .int .i64 q2] from a08 [(#[.int .i64 q1, .int .i64 q2], 27), (#[.int .i64 m1, .int .i64 m2], 29)] w 0 _ _ rfl);have HB1 := hid (show Blk ((w.alloc (.cells #[.int .i64 q1, .int .i64 q2] 27)).alloc (.cells #[.int .i64 m1, .int .i64 m2] 29)) (w.heap.size + 1) 29 #[.int .i64 m1, .int .i64 m2] from a08 [(#[.int .i64 q1, .int .i64 q2], 27), (#[.int .i64 m1, .int .i64 m2], 29)] w 1 _ _ rfl)
 go_enter Tryz.func27, Tryz.ntmps27
 go_upto_region 1 with fail
 generalize w.heap.size = bn at *;generalize (w.alloc (.cells #[.int .i64 q1, .int .i64 q2] 27)).alloc (.cells #[.int .i64 m1, .int .i64 m2] 29) = w0 at *;have HN := hid (HN.o.ext HX.o)
 go_wp2_with fail
 refine (HMD.o w0 HX.o).mono ?_;rintro e w1 ⟨rfl, rfl⟩;have g0 : w0.cell? ⟨p, 0, none⟩ = some (.slice A l.length c) := HN.o.box.cell 0;have g1 : w0.cell? ⟨p, 1, none⟩ = some (.int .i64 out) := HN.o.box.cell 1;have g2 : w0.cell? ⟨p, 2, none⟩ = some (.map (some b)) := HN.o.box.cell 2;have c00 := HB0.o.c0;have c01 := HB0.o.c1;have c10 := HB1.o.c0;have c11 := HB1.o.c1
 go_wp2
 refine yx ?_;refine ya ?_;refine yl2 g0 g1 ?_;refine yl2 c00 c01 ?_;refine yc2 (.int .i64 MY) (fun w' hR => HMY.o w' (HX.o.trans hR)) ?_
 refine ya ?_;refine a0f ?_;intro w1 he hS
 iterate 7 (rintro _ rfl)
 dsimp only [a1K];go_simp;clear hS g0 g1 g2;clear c00 c01 c10 c11;have HX := hid (HX.o.trans he);have HB0 := hid (HB0.o.ext he);have HB1 := hid (HB1.o.ext he);have HN := hid (HN.o.ext he);clear he
 by_cases hy : MY = 0
 · have t1 : (MY != 0) = false := by simpa using hy
   subst hy;have c00 := HB0.o.c0;have c01 := HB0.o.c1;have c10 := HB1.o.c0;have c11 := HB1.o.c1
   go_wp2_with fail
   refine (HCK.o w1).mono ?_;rintro e w2 ⟨rfl, he⟩;clear c00 c01 c10 c11;have HX := hid (HX.o.trans he);have HB0 := hid (HB0.o.ext he);have HB1 := hid (HB1.o.ext he);have HN := hid (HN.o.ext he);clear he
   cases om with
   | false =>
    have HE := hid (show EA = 40 from by rw [HE.o]; simp)
    go_wp2
    go_ret
    refine ⟨by rw [HE.o]; rfl, ?_, _, HX.o, ExtM.refl _ _⟩
    have : LA = L := by rw [HA.o, HE.o]; simp
    rw [this];exact HN.o
   | true =>
   have c00 := HB0.o.c0;have c01 := HB0.o.c1;have c10 := HB1.o.c0;have c11 := HB1.o.c1
   go_wp2
   have hn := Blk.new w2 66 #[.int .i64 q1, .int .i64 q2, .int .i64 m1, .int .i64 m2];have hx3 : Ext w2 (w2.alloc (.cells #[.int .i64 q1, .int .i64 q2, .int .i64 m1, .int .i64 m2] 66)) := (Ext.refl _).alloc _;have HX := hid (HX.o.trans hx3);have HN := hid (HN.o.ext hx3);clear c00 c01 c10 c11;clear hx3;generalize w2.alloc (.cells #[.int .i64 q1, .int .i64 q2, .int .i64 m1, .int .i64 m2] 66) = w3 at *;have g0 : w3.cell? ⟨p, 0, none⟩ = some (.slice A l.length c) := HN.o.box.cell 0;have g1 : w3.cell? ⟨p, 1, none⟩ = some (.int .i64 out) := HN.o.box.cell 1;have g2 : w3.cell? ⟨p, 2, none⟩ = some (.map (some b)) := HN.o.box.cell 2;have a0 := hn.c0;have a1 := hn.c1;have a2 := hn.c2;have a3 := hn.c3;clear hn;generalize w2.heap.size = nk at *;obtain ⟨bl, hbl⟩ : ∃ x, decide (((q1, q2), m1, m2) ∈ L) = x := ⟨_, rfl⟩;have HBL := hid hbl;rw [hbl] at HLK;clear hbl;refine yx ?_;refine ya ?_;refine yl1 g2 ?_;refine yl4 a0 a1 a2 a3 ?_;refine a0Y rfl rfl (a05 rfl) Ext.refl rfl ?_; apply Exists.intro; refine ⟨?_, ?_⟩
   · intro a w' hR h1 h2
     have e1 : _ = _ := h1;have e2 : _ = _ := h2;have hl := HLK.o w' (HX.o.trans hR);dsimp only [kV] at hl;go_simp;rfl
   refine ya ?_;refine a0f ?_;intro w4 he hS
   iterate 6 (rintro _ rfl)
   dsimp only [a1K];go_simp;clear hS;have a0 := he.cell a0;have a1 := he.cell a1;have a2 := he.cell a2;have a3 := he.cell a3;have g2 := he.cell g2;have HX := hid (HX.o.trans he);have HN := hid (HN.o.ext he);clear he g0 g1
   cases bl with
   | true =>
    have HE := hid (show EA = 5 from by rw [HE.o]; have := of_decide_eq_true HBL.o; simp [this])
    go_wp2
    go_ret
    refine ⟨by rw [HE.o]; rfl, ?_, _, HX.o, ExtM.refl _ _⟩
    have : LA = L := by rw [HA.o, HE.o]; simp
    rw [this];exact HN.o
   | false =>
   have HE := hid (show EA = 0 from by rw [HE.o]; have := of_decide_eq_false HBL.o; simp [this])
   have HA := hid (show LA = Fr.b39 L ((q1, q2), m1, m2) from by rw [HA.o, HE.o]; simp)
   go_wp2
   refine a0o 5 [] [] Ext Ext (fun _ => True) (by kernel_rfl) (by kernel_rfl) (by kernel_rfl) (by kernel_rfl) (by kernel_rfl) (by kernel_rfl) (by kernel_rfl) (by rfl) (by rfl) (by kernel_rfl) (by kernel_rfl) (by kernel_rfl) (fun _ _ _ x y => x.trans y) Ext.refl (fun _ _ x => x) (Ext.refl _).drew (fun _ _ x _ => x) trivial ?_
   refine ya ?_;refine yl1 g2 ?_;refine yl4 a0 a1 a2 a3 ?_;refine a0f ?_;intro w5 he hS
   iterate 5 (rintro _ rfl)
   dsimp only [a1K];go_simp;clear hS;have HX := hid (HX.o.trans he);obtain ⟨w6, hup, hx6, hn6⟩ := HPT.o w5 HX.o (of_decide_eq_false HBL.o);dsimp only [kV] at hup;have HN6 := hid hn6;have HX6 := hid hx6;clear hn6 hx6 he a0 a1 a2 a3 g2;simp only [a0x, List.drop_succ_cons, List.drop_zero]
   go_wp2
   clear hup
   go_ret
   refine ⟨by rw [HE.o]; rfl, ?_, _, HX.o, HX6.o⟩
   rw [HA.o];exact HN6.o
 have t1 : (MY != 0) = true := by simpa using hy
 have HE := hid (show EA = MY from by rw [HE.o, if_pos hy])
 have HA := hid (show LA = L from by rw [HA.o, HE.o, if_neg hy])
 clear hy
 go_wp2
 go_ret
 refine ⟨by rw [HE.o]; rfl, ?_, _, HX.o, ExtM.refl _ _⟩
 rw [HA.o];exact HN.o
end Go.Proofs.YtdkejfjcchlnpaaGreat
namespace Go.Proofs.YtdkejfjcchlnpaaGreat
open Go.RowKit Go.Ox Go.Shelf Mo Ct
theorem b2A {σ : Type} (del : σ → Cnt.K → Bool × σ) (g : Nat) (lb : Array Value) (eg : ∀ args w, (callFunc g args).run Tryz.prog w = .ok (.enter g args) w) (J : σ → World → Prop) (Q : Nat → Prop)
 (v : Value) (l : List (Cnt.K)) (w : World) (hv : RE w v l) (hoff : OffQ Q v l.length) (s : σ) (hJ : J s w) (hl : l.length ≤ 1000000000)
 (hcl : ∀ (j : Nat) (hj : j < l.length) W, J (stS del s (l.take j)) W → Calls Tryz.prog g (lb ++ #[kV l[j]]) W fun e W' => e = .returned (.bool (del (stS del s (l.take j)) l[j]).1) ∧ J (stS del s (l.take (j + 1))) W' ∧ ExtQ Q W W') :
 Calls Tryz.prog 96 #[v, .func (.func g) lb #[]] w fun e w' => ∃ k, k ≤ l.length ∧ a1R del s (l.take k) = l.take k ∧ ExtQ Q w w' ∧
  ((k = l.length ∧ e = .returned (.int .i64 (-1)) ∧ J (stS del s l) w') ∨ (∃ hk : k < l.length, e = .returned (.int .i64 (k : Int)) ∧ (del (stS del s (l.take k)) l[k]).1 = true ∧ J (stS del s (l.take (k + 1))) w')) := by
 obtain ⟨A, c, rfl⟩ := hv.form;have HV := hid hv;have HOFF := hid hoff;have HCL := hid hcl;have HJ := hid hJ;clear hv hoff hcl hJ
 go_enter Tryz.func96, Tryz.ntmps96
 go_wp2
 go_loopw [8] (fun iv wr => ∃ k : Nat, k ≤ l.length ∧ iv = .int .i64 k ∧ a1R del s (l.take k) = l.take k ∧ J (stS del s (l.take k)) wr ∧ ExtQ Q w wr) (fun iv _ => l.length - (intOf iv).toNat)
 case atStart => exact ⟨0, Nat.zero_le _, rfl, by simp [a1R], by simpa [stS] using HJ.o, ExtQ.refl _ _⟩
 case round =>
  obtain ⟨k, hk, rfl, hkp, hj, hext⟩ := hrel;have HKP := hid hkp;have HJK := hid hj;have HE := hid hext;clear hkp hj
  by_cases hlt : k < l.length
  · have g1 : (k : Int) < (l.length : Int) := by omega
    have g0 : 0 ≤ (k : Int) := by omega
    have hvr := Rd.a0Q HV.o hext HOFF.o;have hvr : RE wr (.slice A l.length c) l := hvr;obtain ⟨bA, oA, rfl, hcA⟩ := hvr.at_ (i := k) hlt;have HT := hid (a3y (del := del) hlt s);have HS := hid (a7E (del := del) hlt s);have HLT := hid hlt;have HTK := hid (List.take_succ_eq_append_getElem hlt);have HCX := hid (fun W h => HCL.o k hlt W h)
    have HRES := hid (show ∀ W e, (del (stS del s (l.take k)) l[k]).1 = true → e = Ending.returned (.int .i64 (k : Int)) → J (stS del s (l.take (k + 1))) W → ExtQ Q w W → _ from fun W e h1 h2 h3 h4 => (⟨k, hk, HKP.o, h4, .inr ⟨hlt, h2, h1, h3⟩⟩ : ∃ k, k ≤ l.length ∧ a1R del s (l.take k) = l.take k ∧ ExtQ Q w W ∧
     ((k = l.length ∧ e = .returned (.int .i64 (-1)) ∧ J (stS del s l) W) ∨ (∃ hk : k < l.length, e = .returned (.int .i64 (k : Int)) ∧ (del (stS del s (l.take k)) l[k]).1 = true ∧ J (stS del s (l.take (k + 1))) W))))
    generalize l[k] = x at *;clear hext hvr hlt;obtain ⟨⟨x1, x2⟩, x3, x4⟩ := x;have c0 : wr.cell? ⟨bA, oA + k * 4, none⟩ = some (.int .i64 x1) := hcA 0 _ rfl;have c1 : wr.cell? ⟨bA, oA + k * 4 + 1, none⟩ = some (.int .i64 x2) := hcA 1 _ rfl;have c2 : wr.cell? ⟨bA, oA + k * 4 + 2, none⟩ = some (.int .i64 x3) := hcA 2 _ rfl;have c3 : wr.cell? ⟨bA, oA + k * 4 + 3, none⟩ = some (.int .i64 x4) := hcA 3 _ rfl;clear hcA;obtain ⟨s2, hs2⟩ : ∃ s2, stS del s (l.take (k + 1)) = s2 := ⟨_, rfl⟩;rw [hs2] at HS HRES HCX;have HS2 := hid hs2;clear hs2;generalize stS del s (l.take k) = s1 at *
    cases hd : (del s1 ⟨⟨x1, x2⟩, x3, x4⟩).1 with
    | true =>
     rw [hd] at HCX HRES;clear hd
     go_wp2_with fail
     refine (HCX.o _ HJK.o).mono ?_;rintro e w1 ⟨rfl, hj1, he1⟩
     go_wp2
     go_ret
     exact HRES.o _ _ (by first | rfl | trivial) rfl hj1 (HE.o.trans he1)
    | false =>
     rw [hd] at HCX;have HT2 := hid (HT.o hd);clear hd HRES
     go_wp2_with fail
     refine (HCX.o _ HJK.o).mono ?_;rintro e w1 ⟨rfl, hj1, he1⟩
     go_wp2
     exact ⟨⟨k + 1, HLT.o, by go_num, by rw [HT2.o, HTK.o, HKP.o], by rw [HS2.o]; exact hj1, HE.o.trans he1⟩, by have := HLT.o; simp [intOf]; omega⟩
  · obtain rfl : k = l.length := by omega
    have g1 : ¬ (l.length : Int) < (l.length : Int) := by omega
    clear hext
    go_wp2
    go_ret
    exact ⟨l.length, Nat.le_refl _, HKP.o, HE.o, .inl ⟨rfl, rfl, by have := HJK.o; rwa [List.take_length] at this⟩⟩
theorem b19 {σ : Type} (del : σ → Cnt.K → Bool × σ) (g : Nat) (lb : Array Value) (eg : ∀ args w, (callFunc g args).run Tryz.prog w = .ok (.enter g args) w) (J : σ → World → Prop) (Q : Nat → Prop)
 (b base : Nat) (hJk : ∀ s W W', J s W → ExtQ (fun k => k = b) W W' → J s W') (hQb : ¬ Q b)
 (v : Value) (l : List (Cnt.K)) (w : World) (hown : OE 66 base w v l) (hvb : ∀ k, v.ownBlock = some k → k = b) (hQ : ∀ k, Q k → k < w.heap.size) (s : σ) (hJ : J s w) (hl : l.length ≤ 1000000000)
 (hcl : ∀ (j : Nat) (hj : j < l.length) W, J (stS del s (l.take j)) W → Calls Tryz.prog g (lb ++ #[kV l[j]]) W fun e W' => e = .returned (.bool (del (stS del s (l.take j)) l[j]).1) ∧ J (stS del s (l.take (j + 1))) W' ∧ ExtQ Q W W') :
 Calls Tryz.prog 61 #[v, .func (.func g) lb #[]] w fun e w' => ∃ v', e = .returned v' ∧ OE 66 base w' v' (a1R del s l) ∧ (v'.ownBlock = none ∨ v'.ownBlock = some b) ∧ J (stS del s l) w' ∧ ExtQ (fun k => Q k ∨ k = b) w w' := by
 have HIX := hid (b2A del g lb eg J Q v l w hown.re (b3g hown.own fun k hk h => hQb (by rw [← hvb k hk]; exact h)) s hJ hl hcl)
 have HOWN := hid hown
 rcases hown.open_ with ⟨rfl, rfl⟩ | ⟨b', cap, cur, rfl, hbb, hblk, hnc, hcm, hcs, hhas⟩
 · clear hcl hJk
   go_enter Tryz.func61, Tryz.ntmps61
   go_wp2_with fail
   refine HIX.o.mono ?_;rintro e w1 ⟨k, hk, hkp, he1, hr⟩
   rcases hr with ⟨hkl, rfl, hj⟩ | ⟨hlt, rfl, hd, hj⟩
   · go_wp2
     go_ret
     exact ⟨_, rfl, OE.a2F _ _ _, .inl rfl, hj, he1.mono fun k h => .inl h⟩
   simp at hlt
 obtain rfl : b' = b := hvb b' rfl;have HCL := hid hcl;have HJK := hid hJk;have HQB := hid hQb;have HQ := hid hQ;have HHAS := hid hhas;have HBLK := hid hblk;have HBB := hid hbb;have HCS := hid hcs;have HCM := hid hcm;clear hcl hJk hQb hJ hhas hblk hown hQ hvb hbb hcs hcm
 go_enter Tryz.func61, Tryz.ntmps61
 go_wp2_with fail
 refine HIX.o.mono ?_;rintro e w1 ⟨k, hk, hkp, he1, hr⟩;have HE1 := hid he1;have HKP := hid hkp;clear he1 hkp HIX
 rcases hr with ⟨hkl, rfl, hj⟩ | ⟨hlt, rfl, hd, hj⟩
 · have HJ := hid hj
   clear hj
   go_wp2
   go_ret
   refine ⟨_, rfl, ?_, .inr rfl, HJ.o, HE1.o.mono fun k h => .inl h⟩
   have h9 := HKP.o;rw [hkl, List.take_length] at h9;rw [h9];exact a0a HOWN.o.own HE1.o (fun k hk h => HQB.o ((show b' = k from Option.some.inj hk) ▸ h))
 have hne1 : ((k : Int) == -1) = false := beq_eq_false_iff_ne.2 (by omega)
 have HJ := hid hj;have HKT := hid (a3x (del := del) hlt s hd);have HLT := hid hlt;clear hj hd hlt
 go_wp2
 go_loopw [5, 6, 7] (fun s5 s6 _ wr => ∃ (i j : Nat) (cu : Array Value), s5 = .int .i64 i ∧ s6 = .int .i64 j ∧ i < j ∧ j ≤ l.length ∧ (a1R del s (l.take j)).length = i ∧ Blk wr b' 66 cu ∧ cu.size = cap * 4 ∧ Has cu 0 (eV (a1R del s (l.take j))) ∧ Has cu (j * 4) (eV (l.drop j)) ∧
  J (stS del s (l.take j)) wr ∧ ExtQ (fun k => Q k ∨ k = b') w wr) (fun _ s6 _ _ => l.length - (intOf s6).toNat)
 case atStart =>
  have h9 := HKT.o;refine ⟨k, k + 1, cur, rfl, by go_num, by omega, HLT.o, ?_, HBLK.o.a0Q HE1.o HQB.o, HCS.o, ?_, ?_, HJ.o, HE1.o.mono fun k h => .inl h⟩
  · rw [h9, HKP.o, List.length_take]; have := HLT.o; omega
  · rw [h9, HKP.o, ← a9j]
    intro j u hu;rw [List.getElem?_take] at hu
    split at hu
    · exact HHAS.o j u hu
    cases hu
  rw [← a9i];exact HHAS.o.drop (by rw [Nat.zero_add]; rfl)
 case round =>
 obtain ⟨i, j, cu, rfl, rfl, hij, hj, hki, hb, hcs2, hA, hB, hJ2, hext⟩ := hrel;have HB0 := hid hb;have HKI := hid hki;have HCU := hid hcs2;have HA := hid hA;have HB := hid hB;have HJ2 := hid hJ2;have HE := hid hext;clear hb hcs2 hA hB hJ2 hext hki
 by_cases hlt : j < l.length
 · have g1 : (j : Int) < (l.length : Int) := by omega
   have g0 : 0 ≤ (j : Int) := by omega
   have g2 : (i : Int) < (l.length : Int) := by omega
   have g3 : 0 ≤ (i : Int) := by omega
   have hcA := fun (t : Nat) (u : Value) (hu : (Enc.enc l[j])[t]? = some u) => HB0.o.get HB.o (b3i hlt hu)
   have HT := hid (a3x (del := del) hlt s);have HF := hid (a3y (del := del) hlt s);have HS := hid (a7E (del := del) hlt s);have HLT2 := hid hlt;have HCX := hid (fun W h => HCL.o j hlt W h)
   have HDR : Hid (Has cu ((j + 1) * 4) (eV (l.drop (j + 1)))) := hid (by
    have h8 := HB.o.drop (n := 1 * Enc.k (Cnt.K)) (q := (j + 1) * 4) (by show (j + 1) * 4 = j * 4 + 1 * 4; omega)
    rwa [a9i, List.drop_drop] at h8)
   generalize l[j] = x at *;obtain ⟨⟨x1, x2⟩, x3, x4⟩ := x;have c0 : wr.cell? ⟨b', j * 4, none⟩ = some (.int .i64 x1) := hcA 0 _ rfl;have c1 : wr.cell? ⟨b', j * 4 + 1, none⟩ = some (.int .i64 x2) := hcA 1 _ rfl;have c2 : wr.cell? ⟨b', j * 4 + 2, none⟩ = some (.int .i64 x3) := hcA 2 _ rfl;have c3 : wr.cell? ⟨b', j * 4 + 3, none⟩ = some (.int .i64 x4) := hcA 3 _ rfl;clear hcA hlt;obtain ⟨s2, hs2⟩ : ∃ s2, stS del s (l.take (j + 1)) = s2 := ⟨_, rfl⟩;rw [hs2] at HS HCX;have HS2 := hid hs2;clear hs2;generalize stS del s (l.take j) = s1 at *;have hxl : Ext wr (wr.alloc (.cells #[.int .i64 x1, .int .i64 x2, .int .i64 x3, .int .i64 x4] 66)) := (Ext.refl _).alloc _;have HXL := hid hxl;have HBX := hid (Blk.new wr 66 #[.int .i64 x1, .int .i64 x2, .int .i64 x3, .int .i64 x4]);have HJX := hid (HJK.o _ _ _ HJ2.o (ExtQ.of hxl));clear hxl;have HNQ : Hid (¬ Q wr.heap.size) := hid (fun h => by have := HQ.o _ h; have := HE.o.size; omega)
   cases hd : (del s1 ⟨⟨x1, x2⟩, x3, x4⟩).1 with
   | false =>
    rw [hd] at HCX;have HF2 := hid (HF.o hd);clear hd HT HF
    go_wp2_with fail
    refine (HCX.o _ HJX.o).mono ?_;rintro e w2 ⟨rfl, hj1, he2⟩;have HJ3 := hid hj1;have HE2 := hid he2;have HB2 := hid ((HB0.o.ext HXL.o).a0Q he2 HQB.o);have hbx := HBX.o.a0Q he2 HNQ.o;clear hj1 he2;have d0 := hbx.c0;have d1 := hbx.c1;have d2 := hbx.c2;have d3 := hbx.c3;clear hbx;obtain ⟨o0, ho0⟩ : ∃ u, w2.cell? ⟨b', i * 4, none⟩ = some u := ⟨_, (HB2.o.cell _).trans (Array.getElem?_eq_getElem (by have := HCU.o; omega))⟩
    have hf0 := HB2.o.frozen (i * 4);obtain ⟨o1, ho1⟩ : ∃ u, w2.cell? ⟨b', i * 4 + 1, none⟩ = some u := ⟨_, (HB2.o.cell _).trans (Array.getElem?_eq_getElem (by have := HCU.o; omega))⟩
    have hf1 := HB2.o.frozen (i * 4 + 1);obtain ⟨o2, ho2⟩ : ∃ u, w2.cell? ⟨b', i * 4 + 2, none⟩ = some u := ⟨_, (HB2.o.cell _).trans (Array.getElem?_eq_getElem (by have := HCU.o; omega))⟩
    have hf2 := HB2.o.frozen (i * 4 + 2);obtain ⟨o3, ho3⟩ : ∃ u, w2.cell? ⟨b', i * 4 + 3, none⟩ = some u := ⟨_, (HB2.o.cell _).trans (Array.getElem?_eq_getElem (by have := HCU.o; omega))⟩
    have hf3 := HB2.o.frozen (i * 4 + 3)
    go_wp2
    have h5 : Blk ((((w2.setCell ⟨b', i * 4, none⟩ (.int .i64 x1)).setCell ⟨b', i * 4 + 1, none⟩ (.int .i64 x2)).setCell ⟨b', i * 4 + 2, none⟩ (.int .i64 x3)).setCell ⟨b', i * 4 + 3, none⟩ (.int .i64 x4)) b' 66 (a9o cu (i * 4) [.int .i64 x1, .int .i64 x2, .int .i64 x3, .int .i64 x4]) := Blk.setCells (w := w2) [.int .i64 x1, .int .i64 x2, .int .i64 x3, .int .i64 x4] (i * 4) HB2.o;have hx5 : ExtQ (fun k => k = b') w2 ((((w2.setCell ⟨b', i * 4, none⟩ (.int .i64 x1)).setCell ⟨b', i * 4 + 1, none⟩ (.int .i64 x2)).setCell ⟨b', i * 4 + 2, none⟩ (.int .i64 x3)).setCell ⟨b', i * 4 + 3, none⟩ (.int .i64 x4)) := ExtQ.setCells (Q := fun k => k = b') (g := b') (ExtQ.refl _ _) rfl [.int .i64 x1, .int .i64 x2, .int .i64 x3, .int .i64 x4] (i * 4)
    generalize ((((w2.setCell ⟨b', i * 4, none⟩ (.int .i64 x1)).setCell ⟨b', i * 4 + 1, none⟩ (.int .i64 x2)).setCell ⟨b', i * 4 + 2, none⟩ (.int .i64 x3)).setCell ⟨b', i * 4 + 3, none⟩ (.int .i64 x4)) = w5 at *;have hsz : (a9o cu (i * 4) [.int .i64 x1, .int .i64 x2, .int .i64 x3, .int .i64 x4]).size = cap * 4 := by rw [a2H]; exact HCU.o
    have h1 := a9p [.int .i64 x1, .int .i64 x2, .int .i64 x3, .int .i64 x4] cu (i * 4) (by have := HCU.o; simp; omega)
    have h2 := HA.o.o (q := i * 4) (ds := [.int .i64 x1, .int .i64 x2, .int .i64 x3, .int .i64 x4]) (.inl (by rw [a3V, HKI.o]; show 0 + i * 4 ≤ _; omega))
    have h3 := HDR.o.o (q := i * 4) (ds := [.int .i64 x1, .int .i64 x2, .int .i64 x3, .int .i64 x4]) (.inr (by simp; omega))
    refine ⟨⟨i + 1, j + 1, _, by go_num, by go_num, by omega, HLT2.o, by rw [HF2.o, List.length_append, HKI.o]; rfl, h5, hsz, ?_, h3, by rw [HS2.o]; exact HJK.o _ _ _ HJ3.o hx5, ?_⟩, by have := HLT2.o; simp [intOf]; omega⟩
    · rw [HF2.o, b2H]
      exact h2.app h1 (by rw [a3V, HKI.o]; show _ = 0 + i * 4; omega)
    exact ((HE.o.trans (ExtQ.of HXL.o)).trans (HE2.o.mono fun k h => .inl h)).trans (hx5.mono fun k h => .inr h)
   | true =>
   rw [hd] at HCX;have HT2 := hid (HT.o hd);clear hd HT HF
   go_wp2_with fail
   refine (HCX.o _ HJX.o).mono ?_;rintro e w2 ⟨rfl, hj1, he2⟩;have HJ3 := hid hj1;have HE2 := hid he2;have HB2 := hid ((HB0.o.ext HXL.o).a0Q he2 HQB.o);clear hj1 he2
   go_wp2
   exact ⟨⟨i, j + 1, cu, rfl, by go_num, by omega, HLT2.o, by rw [HT2.o]; exact HKI.o, HB2.o, HCU.o, by rw [HT2.o]; exact HA.o, HDR.o, by rw [HS2.o]; exact HJ3.o,
    (HE.o.trans (ExtQ.of HXL.o)).trans (HE2.o.mono fun k h => .inl h)⟩, by have := HLT2.o; simp [intOf]; omega⟩
 obtain rfl : j = l.length := by omega
 have g1 : ¬ (l.length : Int) < (l.length : Int) := by omega
 have hlo := fun w => a3Y b2v (b := b') (n := l.length) (c := cap) (k := i) hij hnc w
 have hhi := fun w => a6c b2v (b := b') (n := l.length) (c := cap) (k := i) (by omega) w
 obtain ⟨zs, hzs, hcl⟩ := a4O b2v (by decide) HB0.o (o := i * 4) (n := l.length - i) (c := cap - i) (by omega) (by rw [HCU.o]; omega)
 have HZS := hid hzs;clear hzs
 go_wp2
 go_ret
 have hx5 : ExtQ (fun k => k = b') wr (wr.setCells b' (i * 4) zs) := ExtQ.setCells (Q := fun k => k = b') (g := b') (ExtQ.refl _ _) rfl zs (i * 4)
 have h5 := Blk.setCells (w := wr) zs (i * 4) HB0.o;have h2 := HA.o.o (q := i * 4) (ds := zs) (.inl (by rw [a3V, HKI.o]; show 0 + i * 4 ≤ _; omega))
 rw [List.take_length] at *;refine ⟨_, rfl, OE.shut HKI.o HBB.o h5 (by omega) HCM.o (by rw [a2H]; exact HCU.o) h2, .inr rfl, HJK.o _ _ _ HJ2.o hx5, HE.o.trans (hx5.mono fun k h => .inr h)⟩
end Go.Proofs.YtdkejfjcchlnpaaGreat
