/-
  Cnt3, Cnt4, FrMath, Box, MomSort, packed: what the claim needs of them.
-/
import Derived.Test.YtdkejfjcchlnpaaGreatFn37
set_option maxHeartbeats 40000000
open Go.Lib (hid)
set_option linter.unusedSimpArgs false
set_option linter.unusedVariables false
set_option maxRecDepth 100000
namespace Go.Proofs.YtdkejfjcchlnpaaGreat.Ct
open Go.RowKit Go.Ox Go.Shelf Mo
theorem b0P (v : Value) (a b c : Int) (w : World) (hv : Rd w 1 v 3 [.int .i64 a, .int .i64 b, .int .i64 c]) : Calls Tryz.prog 76 #[v] w fun e w' => e = .returned (.int .i64 (orI a (orI b c))) ∧ w = w' := by
 obtain ⟨A, c9, rfl, hrd⟩ := hv;obtain ⟨g, o, rfl⟩ := hrd.addr (by omega)
 have hc0 := hrd.get (j := 0) (u := .int .i64 a) rfl;have hc1 := hrd.get (j := 1) (u := .int .i64 b) rfl;have hc2 := hrd.get (j := 2) (u := .int .i64 c) rfl;rw [Nat.add_zero] at hc0;clear hrd;unfold orI
 go_enter Tryz.func76, Tryz.ntmps76
 go_wp2
 go_loop [8] (fun i => ∃ k : Nat, k ≤ 3 ∧ i = .int .i64 k ∧ (0 < k → a = 0) ∧ (1 < k → b = 0) ∧ (2 < k → c = 0)) (fun i => 3 - (intOf i).toNat)
 case atStart => exact ⟨0, by omega, rfl, fun h => by omega, fun h => by omega, fun h => by omega⟩
 case round =>
 obtain ⟨k, hk, rfl, h0, h1, h2⟩ := hrel
 match k, hk with
 | 0, _ =>
  by_cases ha : a = 0
  · subst ha
    clear h0 h1 h2
    go_wp2
    exact ⟨⟨1, by omega, rfl, by simp, fun h => by omega, fun h => by omega⟩, by simp [intOf]⟩
  have hb : (a != 0) = true := by simpa using ha
  clear h0 h1 h2
  go_wp2
  go_ret
  exact ⟨rfl, rfl⟩
 | 1, _ =>
  obtain rfl := h0 (by omega)
  by_cases hb : b = 0
  · subst hb
    clear h0 h1 h2
    go_wp2
    exact ⟨⟨2, by omega, rfl, by simp, by simp, fun h => by omega⟩, by simp [intOf]⟩
  have hb2 : (b != 0) = true := by simpa using hb
  clear h0 h1 h2
  go_wp2
  go_ret
  exact ⟨by simp [hb], rfl⟩
 | 2, _ =>
  obtain rfl := h0 (by omega)
  obtain rfl := h1 (by omega)
  by_cases hb : c = 0
  · subst hb
    clear h0 h1 h2
    go_wp2
    exact ⟨⟨3, by omega, rfl, by simp, by simp, by simp⟩, by simp [intOf]⟩
  have hb2 : (c != 0) = true := by simpa using hb
  clear h0 h1 h2
  go_wp2
  go_ret
  exact ⟨by simp, rfl⟩
 | 3, _ =>
  obtain rfl := h0 (by omega)
  obtain rfl := h1 (by omega)
  obtain rfl := h2 (by omega)
  clear h0 h1 h2
  go_wp2
  go_ret
  exact ⟨rfl, rfl⟩
theorem orI3 (a b : Cnt.K) : orI (a0Z a.1.1 b.1.1) (orI (a0Z a.1.2 b.1.2) (Mom.cmp a.2 b.2)) = Cnt.a6I a b := by
 have h := b3j a.1 b.1;unfold Cnt.a6I;rw [← h];unfold orI
 repeat' split
 all_goals first | rfl | omega
theorem box5 (w : World) (T : TypeId) (a b c d e a' b' c' d' e' : Value) : ∃ w2, w2 = (w.alloc (.cells #[a, b, c, d, e] T)).alloc (.cells #[a', b', c', d', e'] T) ∧ a02 w w2 ∧
 w2.cell? ⟨w.heap.size, 0, none⟩ = some a ∧ w2.cell? ⟨w.heap.size, 1, none⟩ = some b ∧ w2.cell? ⟨w.heap.size, 2, none⟩ = some c ∧ w2.cell? ⟨w.heap.size, 3, none⟩ = some d ∧ w2.cell? ⟨w.heap.size, 4, none⟩ = some e ∧
 w2.cell? ⟨w.heap.size + 1, 0, none⟩ = some a' ∧ w2.cell? ⟨w.heap.size + 1, 1, none⟩ = some b' ∧ w2.cell? ⟨w.heap.size + 1, 2, none⟩ = some c' ∧ w2.cell? ⟨w.heap.size + 1, 3, none⟩ = some d' ∧ w2.cell? ⟨w.heap.size + 1, 4, none⟩ = some e' := by
 have h1 := (Blk.new w T #[a, b, c, d, e]).ext ((Ext.refl _).alloc (.cells #[a', b', c', d', e'] T));have h2 := Blk.new (w.alloc (.cells #[a, b, c, d, e] T)) T #[a', b', c', d', e'];have hs : (w.alloc (.cells #[a, b, c, d, e] T)).heap.size = w.heap.size + 1 := by simp
 rw [hs] at h2;exact ⟨_, rfl, ((a02.refl _).alloc _).alloc _, h1.cell 0, h1.cell 1, h1.cell 2, h1.cell 3, h1.cell 4, h2.cell 0, h2.cell 1, h2.cell 2, h2.cell 3, h2.cell 4⟩
theorem b0Q (x y : Cnt.S) (w : World) : Calls Tryz.prog 47 #[sV x, sV y] w fun e w' => e = .returned (.int .i64 (Cnt.a6I x.1 y.1)) ∧ a02 w w' := by
 have HC := hid (orI3 x.1 y.1);obtain ⟨⟨⟨x1, x2⟩, x3, x4⟩, x5⟩ := x;obtain ⟨⟨⟨y1, y2⟩, y3, y4⟩, y5⟩ := y;dsimp only at *
 go_enter Tryz.func47, Tryz.ntmps47
 go_wp2
 obtain ⟨w2, hw2, hx, c0, c1, c2, c3, c4, d0, d1, d2, d3, d4⟩ := box5 w 38 (.int .i64 x1) (.int .i64 x2) (.int .i64 x3) (.int .i64 x4) (.int .i64 x5) (.int .i64 y1) (.int .i64 y2) (.int .i64 y3) (.int .i64 y4) (.int .i64 y5);rw [← hw2];clear hw2;generalize w.heap.size = n at *;refine a1m [] [] a02 a02 (fun _ => True) (by kernel_rfl) (by rfl) (by rfl) (by kernel_rfl) (by kernel_rfl) (by kernel_rfl) (fun _ _ _ x y => x.trans y) a02.refl (fun _ _ x => x) (a02.refl _).drew (fun _ _ x _ => x) trivial ?_
 refine ya ?_;refine yl1 c0 ?_;refine ya ?_;refine yl1 d0 ?_;refine a06 (fun v _ => v = .int .i64 (a0Z x1 y1)) rfl rfl (a05 rfl) rfl (by exact a0e) ?_ ?_
 · intro a w' hR h1 h2 K hK
   have e1 : _ = _ := h1;have e2 : _ = _ := h2;go_simp;refine (a0g x1 y1 w').mono ?_;rintro e w2 ⟨rfl, rfl⟩;exact hK _ _ (a02.refl _) rfl
 refine ya ?_;refine yl1 c1 ?_;refine ya ?_;refine yl1 d1 ?_;refine a06 (fun v _ => v = .int .i64 (a0Z x2 y2)) rfl rfl (a05 rfl) rfl (by exact a0e) ?_ ?_
 · intro a w' hR h1 h2 K hK
   have e1 : _ = _ := h1;have e2 : _ = _ := h2;go_simp;refine (a0g x2 y2 w').mono ?_;rintro e w2 ⟨rfl, rfl⟩;exact hK _ _ (a02.refl _) rfl
 refine ya ?_;refine yl2 c2 c3 ?_;refine ya ?_;refine yl2 d2 d3 ?_;refine a06 (fun v _ => v = .int .i64 (Mom.cmp (x3, x4) (y3, y4))) rfl rfl (a05 rfl) rfl a0e ?_ ?_
 · intro a w' hR h1 h2 K hK
   have e1 : _ = _ := h1;have e2 : _ = _ := h2;go_simp;refine (a1S (x3, x4) (y3, y4) w').mono ?_;rintro e w2 ⟨rfl, hg⟩;exact hK _ _ hg rfl
 refine a06 (fun v w2 => Rd w2 1 v 3 [.int .i64 (a0Z x1 y1), .int .i64 (a0Z x2 y2), .int .i64 (Mom.cmp (x3, x4) (y3, y4))]) rfl rfl (a05 rfl) rfl (by first | exact (fun _ _ _ h k => Rd.ext h k) | exact (fun _ _ _ h k => Rd.ext h (a02.ext k)) | exact (fun _ _ _ h k => Rd.extV h k)) ?_ ?_
 · intro a w' hR h1 h2 h3 K hK
   have e1 : _ = _ := h1;have e2 : _ = _ := h2;have e3 : _ = _ := h3;have q1 : a.tmps[11]?.getD undef = .int .i64 (a0Z x1 y1) := by simpa using e1
   have q2 : a.tmps[18]?.getD undef = .int .i64 (a0Z x2 y2) := by simpa using e2
   have q3 : a.tmps[23]?.getD undef = .int .i64 (Mom.cmp (x3, x4) (y3, y4)) := by simpa using e3
   go_simp;exact hK _ _ ((a02.refl _).alloc _) (Rd.lit _ #[.int .i64 (a0Z x1 y1), .int .i64 (a0Z x2 y2), .int .i64 (Mom.cmp (x3, x4) (y3, y4))] _ 3 rfl (by unfold maxLen; omega))
 refine a06 (fun v _ => v = .int .i64 (orI (a0Z x1 y1) (orI (a0Z x2 y2) (Mom.cmp (x3, x4) (y3, y4))))) rfl rfl (a05 rfl) rfl a0e ?_ ?_
 · intro a w' hR h1 K hK
   obtain ⟨x, ex, fx⟩ : ∃ x, a.tmps.getD 24 undef = x ∧ (fun v w2 => Rd w2 1 v 3 [.int .i64 (a0Z x1 y1), .int .i64 (a0Z x2 y2), .int .i64 (Mom.cmp (x3, x4) (y3, y4))]) x w' := ⟨_, rfl, h1⟩
   go_simp;refine (b0P _ _ _ _ w' fx).mono ?_;rintro e w2 ⟨rfl, rfl⟩;exact hK _ _ (a02.refl _) rfl
 refine ya ?_;refine a0f ?_;intro w5 hx5 hS
 iterate 19 (rintro _ rfl)
 iterate 1 (intro _ hz; clear hz)
 iterate 2 (rintro _ rfl)
 dsimp only [a1K];go_simp
 go_wp2
 go_ret
 rw [HC.o];exact ⟨rfl, hx.trans hx5⟩
theorem ltS (x y : Cnt.S) : Go.Proofs.ltOf (fun x y : Cnt.S => Cnt.a6I x.1 y.1) x y = true ↔ Cnt.klt x.1 y.1 := by
 unfold Go.Proofs.ltOf;simp only [decide_eq_true_eq];exact Cnt.a7s
theorem b4m (x y : Cnt.S) : Go.Proofs.ltOf (fun x y : Cnt.S => Cnt.a6I x.1 y.1) x y = false ↔ ¬ Cnt.klt x.1 y.1 := by
 rw [← ltS, Bool.not_eq_true]
theorem swoS : Go.Sort.SWO (Go.Proofs.ltOf (fun x y : Cnt.S => Cnt.a6I x.1 y.1)) where
 irrefl x := by rw [b4m]; exact Cnt.a0r _
 trans x y z h1 h2 := by rw [ltS] at *; exact Cnt.a0B h1 h2
 ntrans x y z h1 h2 := by
  rw [b4m] at *;intro h3
  rcases Cnt.a1y x.1 y.1 with h | h | h
  · exact h1 h
  · rw [h] at h3; exact h2 h3
  · rcases Cnt.a1y y.1 z.1 with k | k | k
    · exact h2 k
    · rw [k] at h; exact Cnt.a0r _ (Cnt.a0B h h3)
    · exact Cnt.a0r _ (Cnt.a0B h3 (Cnt.a0B k h))
theorem b2q (blk off size : Nat) (w : World) : Go.Proofs.CmpLays Tryz.prog 47 #[] encS.enc 5 (fun x y : Cnt.S => Cnt.a6I x.1 y.1) blk off size w :=
 fun _ _ _ _ x y => b0Q x y _
theorem b0R (v : Value) (l : List Cnt.S) (base : Nat) (w : World) (ho : OE 38 base w v l) (hl : l.length ≤ 1000000000) :
 Calls Tryz.prog 46 #[v, .func (.func 47) #[] #[]] w fun e w' =>
  e = .returned (.tuple #[]) ∧ ∃ s : List Cnt.S, s.Perm l ∧ s.Pairwise (fun a b => ¬ Cnt.klt b.1 a.1) ∧ OE 38 base w' v s ∧ w.grownBy w' v.ownBlock := by
 rcases ho.own.2 with ⟨rfl, h0⟩ | ⟨g, cap, cur, rfl, hb, _⟩
 · obtain rfl := List.eq_nil_of_length_eq_zero h0
   refine (AnyF.slices_SortFunc_none Tryz.sortS none 0 _ w).mono ?_;rintro e w' ⟨h1, rfl⟩;exact ⟨h1, [], List.Perm.refl _, List.Pairwise.nil, OE.a2F _ _ _, World.grownBy.refl _ _⟩
 · have eg : ∀ args w, (callFunc 47 args).run Tryz.prog w = .ok (.enter 47 args) w := enters_of Tryz.func47 (by kernel_rfl) rfl
   have hown : w.ownsRow base 38 5 (.slice (some ⟨g, 0, none⟩) l.length cap) l.length (l.flatMap encS.enc) := ho.own;have hH := a0R (enc := encS.enc) encS.len encS.pos hown
   have hcon := AnyQ.slices_SortFunc Tryz.sortS 5 Tryz.isAgg38 Tryz.sizeOf38 encS.enc encS.len encS.one (fun x y : Cnt.S => Cnt.a6I x.1 y.1) swoS 47 #[] g 0 cap l.toArray w eg
    (b2q g 0 _ w) hH (hown.lt g rfl).2 (by simp; omega)
   refine hcon.mono ?_;rintro e w' ⟨h1, d', n, os, hp, hs, hw⟩;have hsz : d'.size = l.length := by have := hp.1; simpa using this
   obtain ⟨q1, q2⟩ := a1k (enc := encS.enc) encS.len encS.pos hown hsz hw;refine ⟨h1, d'.toList, by simpa using a5u hp, (a2C hs (by simpa using hsz)).imp (fun {a b} h => (b4m _ _).1 h), ?_, q2⟩
   unfold OE;rw [show d'.toList.length = l.length by simpa using hsz]
   exact q1
theorem b0S {s l L : List Cnt.S} (hp : s.Perm l) (hs : s.Pairwise fun a b => ¬ Cnt.klt b.1 a.1) (hn : (l.map (·.1)).Nodup) (hg : Cnt.Good L) (h : ∀ x, x ∈ l ↔ x ∈ L) : s = L := by
 refine Cnt.a4R ?_ hg.asc fun x => by rw [hp.mem_iff, h]
 have hn2 : (s.map (·.1)).Nodup := (hp.map (·.1)).nodup_iff.2 hn;rw [List.nodup_iff_pairwise_ne, List.pairwise_map] at hn2;refine (hs.and hn2).imp fun {a b} hh => ?_
 rcases Cnt.a1y a.1 b.1 with q | q | q
 · exact q
 · exact absurd q hh.2
 exact absurd q hh.1
theorem a34 {l : List Cnt.S} (h : (l.map (·.1)).Nodup) : l.Nodup := by
 rw [List.nodup_iff_pairwise_ne] at h ⊢;rw [List.pairwise_map] at h;exact h.imp fun {a b} hh q => hh (by rw [q])
theorem a6K {κ ν : Type} {kV : κ → Value} {vV : ν → Value} {w : World} {r b : Nat} {es : Array MapEntry} {clock : Nat} {l : List (κ × ν)} {seen : Array Nat} (h : Iter kV vV w r b es clock l seen) : w.iterSeen r = seen := by
 unfold World.iterSeen; rw [h.it]
theorem a8g {κ ν α : Type} [Enc α] {kV : κ → Value} {vV : ν → Value} {w w' : World} {r b : Nat} {es : Array MapEntry} {clock : Nat} {l : List (κ × ν)} {seen : Array Nat} (h : Iter kV vV w r b es clock l seen)
 {E base : Nat} {v : Value} {S : List α} (ho : OE E base w v S) (hg : w.grownBy w' v.ownBlock) : Iter kV vV w' r b es clock l seen := by
 have key : ∀ (k : Nat) (o : Obj), w.heap[k]? = some o → (∀ cs t m, o ≠ .cells cs t m) → w'.heap[k]? = w.heap[k]? := by
  intro k o hk hno;refine hg.block k (Array.getElem?_eq_some_iff.1 hk).1 fun q => ?_
  rcases ho.own.2 with ⟨rfl, _⟩ | ⟨g, cap, cur, rfl, hb, hh, _⟩
  · cases q
  injection q with q
  subst q;rw [hk] at hh;injection hh with hh
  exact hno _ _ _ hh
 exact ⟨(key _ _ h.it (by intro _ _ _ q; cases q)).trans h.it, (key _ _ h.map (by intro _ _ _ q; cases q)).trans h.map, h.ent, h.born, h.old⟩
theorem b0T (w : World) (k1 k2 k3 k4 n : Int) : RE ((w.alloc (.cells #[.int .i64 k1, .int .i64 k2, .int .i64 k3, .int .i64 k4] 92)).alloc (.cells #[.int .i64 k1, .int .i64 k2, .int .i64 k3, .int .i64 k4, .int .i64 n] 38))
 (.slice (some ⟨w.heap.size + 1, 0, none⟩) 1 1) [(((k1, k2), k3, k4), n)] := by
 have h := RE.lit (w.alloc (.cells #[.int .i64 k1, .int .i64 k2, .int .i64 k3, .int .i64 k4] 92)) #[.int .i64 k1, .int .i64 k2, .int .i64 k3, .int .i64 k4, .int .i64 n] 38 1 [(((k1, k2), k3, k4), n)] rfl (by omega) rfl
 rwa [show (w.alloc (.cells #[.int .i64 k1, .int .i64 k2, .int .i64 k3, .int .i64 k4] 92)).heap.size = w.heap.size + 1 by simp] at h
theorem ExtM.grown {b : Nat} {w w' : World} (h : ExtM b w w') : w.grownBy w' (some b) :=
 ⟨h.os, h.tape, h.output, h.size, fun k hk hne => h.block k hk fun q => hne (by rw [q])⟩
theorem OE.a1Q {α : Type} [Enc α] {E base r : Nat} {w w' : World} {v : Value} {l : List α} (h : OE E base w v l) (he : ExtM r w w') (hr : ∀ cs t m, w.heap[r]? ≠ some (.cells cs t m)) : OE E base w' v l := by
 refine h.grown (ExtM.grown he) fun k hk q => ?_
 injection q with q
 subst q
 rcases h.own.2 with ⟨rfl, _⟩ | ⟨g, cap, cur, rfl, hb, hh, _⟩
 · cases hk
 injection hk with hk
 subst hk;exact hr _ _ _ hh
theorem a7t (w : World) (k1 k2 k3 k4 : Int) : Ext w (w.alloc (.cells #[.int .i64 k1, .int .i64 k2, .int .i64 k3, .int .i64 k4] 92)) ∧
 (w.alloc (.cells #[.int .i64 k1, .int .i64 k2, .int .i64 k3, .int .i64 k4] 92)).cell? ⟨w.heap.size, 0, none⟩ = some (.int .i64 k1) ∧ (w.alloc (.cells #[.int .i64 k1, .int .i64 k2, .int .i64 k3, .int .i64 k4] 92)).cell? ⟨w.heap.size, 1, none⟩ = some (.int .i64 k2) ∧
 (w.alloc (.cells #[.int .i64 k1, .int .i64 k2, .int .i64 k3, .int .i64 k4] 92)).cell? ⟨w.heap.size, 2, none⟩ = some (.int .i64 k3) ∧ (w.alloc (.cells #[.int .i64 k1, .int .i64 k2, .int .i64 k3, .int .i64 k4] 92)).cell? ⟨w.heap.size, 3, none⟩ = some (.int .i64 k4) := by
 have h := Blk.new w 92 #[.int .i64 k1, .int .i64 k2, .int .i64 k3, .int .i64 k4];exact ⟨(Ext.refl _).alloc _, h.cell 0, h.cell 1, h.cell 2, h.cell 3⟩
theorem a5o (w : World) (g b : Nat) (L : List Cnt.S) (h : CM w g b L) (hl : L.length ≤ 1000000) :
 Calls Tryz.prog 13 #[.pointer (some ⟨g, 0, none⟩)] w fun e w' => ∃ v, e = .returned v ∧ OE 38 w.heap.size w' v L ∧ Ext w w' := by
 have HM := hid (a30 w g b L h);have c0 : w.cell? ⟨g, 0, none⟩ = some (.map (some b)) := h.box.cell 0;obtain ⟨l, hm, hmem⟩ := h.map;have hlt := hm.lt;have hnd := hm.nodup;obtain ⟨es, clock, hr, hit, hlen⟩ := hm.range (t := 88) Tryz.underlying88
 have hll : l.length = L.length := by
  have h1 := Cnt.a4w h.good.asc;have hp : l.Perm L := (List.perm_ext_iff_of_nodup (a34 hnd) (a34 h1)).2 hmem;exact hp.length_eq
 have HIT := hid hit;have HLEN := hid hlen;have HSI := hid (fun (s : List Cnt.S) (hp : s.Perm l) hs => b0S hp hs hnd h.good hmem)
 have HLL := hid hll;have HLT := hid hlt;clear h hm hlt hnd hit hlen hmem hll
 go_enter Tryz.func13, Tryz.ntmps13
 go_wp2_with fail
 refine HM.o.mono ?_;rintro e w1 ⟨rfl, rfl⟩
 go_wp2
 have HW := hid (show Ext w (w.alloc (.mapIter (some b) clock #[] clock)) from (Ext.refl _).alloc _);clear hr c0;generalize w.alloc (.mapIter (some b) clock #[] clock) = w0 at *
 go_loopw [3] (fun o wr => ∃ seen S, Iter kV vI wr w.heap.size b es clock l seen ∧ S.Perm (a8m es l seen) ∧ OE 38 w.heap.size wr o S ∧ Ext w wr) (fun _ wr => (leftOf es (wr.iterSeen w.heap.size)).size)
 case atStart => exact ⟨#[], [], HIT.o, by rw [a6a], OE.a2F _ _ _, HW.o⟩
 case round =>
 obtain ⟨seen, S, hit, hp, ho, hext⟩ := hrel;rename World => wA
 have HP := hid hp;have HO := hid ho;have HX := hid hext;have hsn : wA.iterSeen w.heap.size = seen := by unfold World.iterSeen; rw [hit.it]
 have HSN := hid hsn
 rcases hit.next (Nat.ne_of_gt HLT.o) 0 with ⟨h0, hrun⟩ | ⟨x, w1, seen', hrun, hit1, hx1, hlt1, hp1, hent⟩
 · have hrun : ∀ ty, (Instr.next (.pointer (some ⟨w.heap.size, 0, none⟩)) false ty).run Tryz.prog wA = .ok (.tuple #[.bool false]) wA := fun _ => hrun
   have hall := a7D HLEN.o h0;have HSL := hid (show S.Perm l by rw [← hall]; exact HP.o)
   obtain ⟨A9, c9, rfl⟩ := HO.o.re.form;have hSl : S.length ≤ 1000000000 := by have := HSL.o.length_eq; have := HLL.o; omega
   clear h0 hall hp ho hext hit hsn
   go_wp2_with fail
   refine (b0R _ S w.heap.size wA HO.o hSl).mono ?_;rintro e w2 ⟨rfl, s, hps, hss, ho2, hg2⟩;have hsL := HSI.o s (hps.trans HSL.o) hss;subst hsL
   go_wp2
   go_ret
   exact ⟨_, rfl, ho2, HX.o.grown hg2 fun k hk => (HO.o.own.lt k hk).1⟩
 have hrun : ∀ ty, (Instr.next (.pointer (some ⟨w.heap.size, 0, none⟩)) false ty).run Tryz.prog wA = .ok (.tuple #[.bool true, kV x.1, vI x.2]) w1 := fun _ => hrun
 have ho1 := OE.a1Q HO.o hx1 (by rw [hit.it]; intro _ _ _ q; cases q)
 have hSl : S.length ≤ 1000000 := by
  have h1 := HP.o.length_eq
  have h2 : (a8m es l seen).length ≤ l.length := by
   unfold a8m;rw [List.length_map];refine Nat.le_trans (List.length_filter_le _ _) ?_;rw [List.length_zip]; omega
  have := HLL.o;omega
 have HO1 := hid ho1;have HX1 := hid (HX.o.andM hx1 (Nat.le_refl _));have HI1 := hid hit1;have HL1 := hid hlt1;have HP1 := hid ((HP.o.append_right [x]).trans hp1.symm);obtain ⟨⟨⟨x1, x2⟩, x3, x4⟩, x5⟩ := x;dsimp only [kV, vI] at hrun hent;obtain ⟨A9, c9, rfl⟩ := HO1.o.re.form;obtain ⟨hxk, k1, k2, k3, k4⟩ := a7t w1 x1 x2 x3 x4;have HXK := hid hxk;clear hp ho hext hit hsn ho1 hx1 hit1 hlt1 hp1 hxk;have HLT2 := hid (b0T w1 x1 x2 x3 x4 x5);have hxs : Ext w1 ((w1.alloc (.cells #[.int .i64 x1, .int .i64 x2, .int .i64 x3, .int .i64 x4] 92)).alloc (.cells #[.int .i64 x1, .int .i64 x2, .int .i64 x3, .int .i64 x4, .int .i64 x5] 38)) := ((Ext.refl _).alloc _).alloc _;have HXS := hid hxs;have HO2 := hid (HO1.o.ext hxs);have HI2 := hid (HI1.o.ext hxs);have HX2 := hid (HX1.o.trans hxs);clear hxs
 go_wp2_with (at_builtin; refine a0y rfl elemS _ _ _ rfl w.heap.size _ _ S [(((x1, x2), x3, x4), x5)] rfl HO2.o rfl HLT2.o (by simp only [List.length_singleton]; omega) (by simp only [List.length_singleton]; unfold maxLen; omega) HX2.o.size ?_; intro v6 w6 ho6 hb6 hg6)
 have hi6 := a8g HI2.o HO2.o hg6;refine ⟨⟨seen', S ++ [(((x1, x2), x3, x4), x5)], hi6, HP1.o, ho6, Below.trans HX2.o hb6⟩, ?_⟩;rw [a6K hi6, HSN.o];exact HL1.o
end Go.Proofs.YtdkejfjcchlnpaaGreat.Ct
namespace Go.Proofs.YtdkejfjcchlnpaaGreat.Ct
open Go.RowKit Go.Ox Go.Shelf Mo
attribute [local irreducible] OP RP
theorem a6p (a b c d : Int) (w : World) : (Op.equalIn 10000 27 (.agg #[.int .i64 a, .int .i64 b]) (.agg #[.int .i64 c, .int .i64 d])).run Tryz.prog w = .ok (a4t a b c d) w := by
 have u3 := Tryz.underlying3;have a3 := Tryz.isAgg3;have z3 := Tryz.sizeOf3;have hS : Tryz.prog.underlying 27 = some (.struct (Tryz.prog.fieldsOf 27)) := by kernel_rfl
 have hp : Tryz.prog.stoodInHeld 27 = false := by kernel_rfl
 rw [show (10000 : Nat) = 9999 + 1 from rfl, run_equalIn_agg w 9999 27 _ _ hS hp];simp only [Program.fieldsOf, Tryz.underlying27];rw [b35];go_simp
 by_cases h1 : a = c <;> by_cases h2 : b = d <;> simp [h1, h2]
theorem eqPl (a b c d : Int) (w : World) : (binOp .eql 27 (.agg #[.int .i64 a, .int .i64 b]) (.agg #[.int .i64 c, .int .i64 d])).run Tryz.prog w = .ok (.bool (a4t a b c d)) w := by
 rw [run_eql_struct, a6p]; rfl
end Go.Proofs.YtdkejfjcchlnpaaGreat.Ct
namespace Go.Ox.Fr
open Go.Ox.Gr Go.Ox.Pl Go.Proofs.YtdkejfjcchlnpaaGreat Go.Proofs.YtdkejfjcchlnpaaGreat.Mo
def cm1 (g : G) (q : P2) (s : Cnt.S) : Option Mom.M := (b1n g s.1.1 q).bind fun w => if (a1J w s.1.2).2 = 0 then some (a1J w s.1.2).1 else none
def cmB (g : G) (q : P2) (but : Cnt.S → Bool) (s : Cnt.S) : Option Mom.M := if but s = true then none else cm1 g q s
def comes (g : G) (L : List Cnt.S) (q : P2) (but : Cnt.S → Bool) : List Mom.M := L.filterMap (cmB g q but)
def no (_ : Cnt.S) : Bool := false
def own (q : P2) (m : Mom.M) (s : Cnt.S) : Bool := decide (s.1.1 = q) && decide (s.1.2 = m)
theorem a4x (g : G) (L : List Cnt.S) (q : P2) (but : Cnt.S → Bool) : (comes g L q but).length ≤ L.length := List.length_filterMap_le _ _
def may (g : G) (q : P2) : Int := if gOk g = true then (if (gNd g q).isSome = true then 0 else 1) else 170
end Go.Ox.Fr
namespace Go.Ox
open Go.RowKit
def b0U (w : World) : List (Array Value × TypeId) → World
 | [] => w
 | x :: r => b0U (w.alloc (.cells x.1 x.2)) r
theorem a0s : ∀ (bs : List (Array Value × TypeId)) (w : World), Ext w (b0U w bs)
 | [], w => Ext.refl w
 | x :: r, w => ((Ext.refl w).alloc (.cells x.1 x.2)).trans (a0s r _)
theorem a08 : ∀ (bs : List (Array Value × TypeId)) (w : World) (k : Nat) (cs : Array Value) (t : TypeId), bs[k]? = some (cs, t) → Blk (b0U w bs) (w.heap.size + k) t cs
 | [], w, k, cs, t, h => by simp at h
 | x :: r, w, 0, cs, t, h => by
  simp only [List.getElem?_cons_zero, Option.some.injEq] at h;subst h;exact (Blk.new w t cs).ext (a0s r _)
 | x :: r, w, k + 1, cs, t, h => by
  have := a08 r (w.alloc (.cells x.1 x.2)) k cs t (by simpa using h)
  have e : (w.alloc (.cells x.1 x.2)).heap.size + k = w.heap.size + (k + 1) := by simp; omega
  rw [e] at this;exact this
end Go.Ox
namespace Go.Proofs.YtdkejfjcchlnpaaGreat.Mo
open Go.RowKit Go.Ox Go.Shelf
theorem ltM (x y : Mom.M) : Go.Proofs.ltOf Mom.cmp x y = true ↔ Mom.lt x y := by
 unfold Go.Proofs.ltOf;simp only [decide_eq_true_eq];exact Mom.a6d
theorem b4n (x y : Mom.M) : Go.Proofs.ltOf Mom.cmp x y = false ↔ ¬ Mom.lt x y := by
 rw [← ltM, Bool.not_eq_true]
theorem swoM : Go.Sort.SWO (Go.Proofs.ltOf Mom.cmp) where
 irrefl x := by rw [b4n]; exact Mom.lt_irrefl x
 trans x y z h1 h2 := by rw [ltM] at *; exact Mom.lt_trans h1 h2
 ntrans x y z h1 h2 := by
  rw [b4n] at *;intro h3
  rcases Mom.a2x x y with h | h | h
  · exact h1 h
  · subst h; exact h2 h3
  · rcases Mom.a2x y z with k | k | k
    · exact h2 k
    · subst k; exact h1 h3
    · exact Mom.lt_irrefl _ (Mom.lt_trans h3 (Mom.lt_trans k h))
theorem b2r (blk off size : Nat) (w : World) : Go.Proofs.CmpLays Tryz.prog 78 #[] b1v 2 Mom.cmp blk off size w :=
 fun _ _ _ _ x y => a1S x y _
theorem pV_enc (l : List Mom.M) : pV l = l.flatMap b1v := rfl
theorem b0V (v : Value) (l : List Mom.M) (base : Nat) (w : World) (ho : OP 29 base w v l) (hl : l.length ≤ 1000000000) :
 Calls Tryz.prog 81 #[v, .func (.func 78) #[] #[]] w fun e w' =>
  e = .returned (.tuple #[]) ∧ ∃ s : List Mom.M, s.Perm l ∧ s.Pairwise (fun a b => ¬ Mom.lt b a) ∧ OP 29 base w' v s ∧ w.grownBy w' v.ownBlock := by
 rcases ho.own.2 with ⟨rfl, h0⟩ | ⟨g, cap, cur, rfl, hb, _⟩
 · obtain rfl := List.eq_nil_of_length_eq_zero h0
   refine (AnyF.slices_SortFunc_none Tryz.sortMo none 0 _ w).mono ?_;rintro e w' ⟨h1, rfl⟩;exact ⟨h1, [], List.Perm.refl _, List.Pairwise.nil, OP.a2F _ _ _, World.grownBy.refl _ _⟩
 · have eg : ∀ args w, (callFunc 78 args).run Tryz.prog w = .ok (.enter 78 args) w := enters_of Tryz.func78 (by kernel_rfl) rfl
   have hH := a0R (enc := b1v) (fun _ => rfl) (by omega) ho.own
   have hcon := AnyQ.slices_SortFunc Tryz.sortMo 2 Tryz.isAgg29 Tryz.sizeOf29 b1v (fun _ => rfl) (fun x u hu => by simp at hu; rcases hu with rfl | rfl <;> rfl) Mom.cmp swoM 78 #[] g 0 cap l.toArray w eg
    (b2r g 0 _ w) hH (ho.own.lt g rfl).2 (by simp; omega)
   refine hcon.mono ?_;rintro e w' ⟨h1, d', n, os, hp, hs, hw⟩;have hsz : d'.size = l.length := by have := hp.1; simpa using this
   obtain ⟨q1, q2⟩ := a1k (enc := b1v) (fun _ => rfl) (by omega) ho.own hsz hw
   refine ⟨h1, d'.toList, by simpa using a5u hp, (a2C hs (by simpa using hsz)).imp (fun {a b} h => (b4n _ _).1 h), ?_, q2⟩
   unfold OP;rw [pV_enc, show d'.toList.length = l.length by simpa using hsz]
   exact q1
end Go.Proofs.YtdkejfjcchlnpaaGreat.Mo
