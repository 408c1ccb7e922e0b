/-
  Fr6, packed: what the claim needs of them.
-/
import Derived.Test.YtdkejfjcchlnpaaGreatFn40
set_option maxHeartbeats 40000000
open Go.Lib (hid)
set_option linter.unusedSimpArgs false
set_option linter.unusedVariables false
set_option maxRecDepth 100000
namespace Go.Proofs.YtdkejfjcchlnpaaGreat
open Go.RowKit Go.Ox Go.Ox.Gr Go.Shelf Mo Ct
instance encK : Enc Cnt.K where
 k := 4
 enc x := [.int .i64 x.1.1, .int .i64 x.1.2, .int .i64 x.2.1, .int .i64 x.2.2]
 len _ := rfl
 pos := by omega
 one x u hu := by simp at hu; rcases hu with rfl | rfl | rfl | rfl <;> rfl
theorem b2v : Elem Tryz.prog 62 66 (.agg #[.int .i64 0, .int .i64 0, .int .i64 0, .int .i64 0]) 4 32 := Elem.mk' Tryz.underlying62 (by kernel_rfl) rfl (by omega)
theorem eqInA (x y : Cnt.K) (w : World) : (Op.equalIn 10000 66 (kV x) (kV y)).run Tryz.prog w = .ok (decide (x = y)) w := by
 have hS : Tryz.prog.underlying 66 = some (.struct (Tryz.prog.fieldsOf 66)) := by kernel_rfl
 have hp : Tryz.prog.stoodInHeld 66 = false := by kernel_rfl
 have h1 := eqInP;have h2 := b37;have a1 := Tryz.isAgg27;have a2 := Tryz.isAgg29;have z1 := Tryz.sizeOf27;have z2 := Tryz.sizeOf29;rw [show (10000 : Nat) = 9999 + 1 from rfl, run_equalIn_agg w 9999 66 _ _ hS hp];simp only [Program.fieldsOf, Tryz.underlying66];obtain ⟨⟨x1, x2⟩, x3, x4⟩ := x;obtain ⟨⟨y1, y2⟩, y3, y4⟩ := y;go_simp;unfold a90
 by_cases q1 : x1 = y1 <;> by_cases q2 : x2 = y2 <;> by_cases q3 : x3 = y3 <;> by_cases q4 : x4 = y4 <;> simp [q1, q2, q3, q4]
theorem eqAsk (x y : Cnt.K) (w : World) : (binOp .eql 66 (kV x) (kV y)).run Tryz.prog w = .ok (.bool (decide (x = y))) w := by
 rw [run_eql_struct, eqInA]; rfl
theorem chkA (e : Bool) (x : Cnt.K) (w : World) : (Instr.checkKey e 10000 66 (kV x)).run Tryz.prog w = .ok () w := by
 kernel_rfl
theorem keyA : KeyE Tryz.prog 66 kV where
 eq := eqInA
 chk := chkA
 now x y es i b n := ⟨_, Tryz.underlying66, rfl, rfl⟩
 bits := bitsK
theorem zeroB (w : World) : (zeroValue 4).run Tryz.prog w = .ok (.bool false) w := by kernel_rfl
theorem boxA (w : World) (T : TypeId) (a b c d a' b' c' d' : Value) : ∃ w2, w2 = (w.alloc (.cells #[a, b, c, d] T)).alloc (.cells #[a', b', c', d'] T) ∧ a02 w w2 ∧
 w2.cell? ⟨w.heap.size, 0, none⟩ = some a ∧ w2.cell? ⟨w.heap.size, 1, none⟩ = some b ∧ w2.cell? ⟨w.heap.size, 2, none⟩ = some c ∧ w2.cell? ⟨w.heap.size, 3, none⟩ = some d ∧
 w2.cell? ⟨w.heap.size + 1, 0, none⟩ = some a' ∧ w2.cell? ⟨w.heap.size + 1, 1, none⟩ = some b' ∧ w2.cell? ⟨w.heap.size + 1, 2, none⟩ = some c' ∧ w2.cell? ⟨w.heap.size + 1, 3, none⟩ = some d' := by
 have h1 := (Blk.new w T #[a, b, c, d]).ext ((Ext.refl _).alloc (.cells #[a', b', c', d'] T));have h2 := Blk.new (w.alloc (.cells #[a, b, c, d] T)) T #[a', b', c', d'];have hs : (w.alloc (.cells #[a, b, c, d] T)).heap.size = w.heap.size + 1 := by simp
 rw [hs] at h2;exact ⟨_, rfl, ((a02.refl _).alloc _).alloc _, h1.cell 0, h1.cell 1, h1.cell 2, h1.cell 3, h2.cell 0, h2.cell 1, h2.cell 2, h2.cell 3⟩
theorem a95 (x y : Cnt.K) (w : World) : Calls Tryz.prog 66 #[kV x, kV y] w fun e w' => e = .returned (.int .i64 (Cnt.a6I x y)) ∧ a02 w w' := by
 have HC := hid (orI3 x y);obtain ⟨⟨x1, x2⟩, x3, x4⟩ := x;obtain ⟨⟨y1, y2⟩, y3, y4⟩ := y;dsimp only at *
 go_enter Tryz.func66, Tryz.ntmps66
 go_wp2
 obtain ⟨w2, hw2, hx, c0, c1, c2, c3, d0, d1, d2, d3⟩ := boxA w 66 (.int .i64 x1) (.int .i64 x2) (.int .i64 x3) (.int .i64 x4) (.int .i64 y1) (.int .i64 y2) (.int .i64 y3) (.int .i64 y4);rw [← hw2];clear hw2;generalize w.heap.size = n at *;refine a1m [] [] a02 a02 (fun _ => True) (by kernel_rfl) (by rfl) (by rfl) (by kernel_rfl) (by kernel_rfl) (by kernel_rfl) (fun _ _ _ x y => x.trans y) a02.refl (fun _ _ x => x) (a02.refl _).drew (fun _ _ x _ => x) trivial ?_
 refine ya ?_;refine yl1 c0 ?_;refine ya ?_;refine yl1 d0 ?_;refine a06 (fun v _ => v = .int .i64 (a0Z x1 y1)) rfl rfl (a05 rfl) rfl (by exact a0e) ?_ ?_
 · intro a w' hR h1 h2 K hK
   have e1 : _ = _ := h1;have e2 : _ = _ := h2;go_simp;refine (a0g x1 y1 w').mono ?_;rintro e w2 ⟨rfl, rfl⟩;exact hK _ _ (a02.refl _) rfl
 refine ya ?_;refine yl1 c1 ?_;refine ya ?_;refine yl1 d1 ?_;refine a06 (fun v _ => v = .int .i64 (a0Z x2 y2)) rfl rfl (a05 rfl) rfl (by exact a0e) ?_ ?_
 · intro a w' hR h1 h2 K hK
   have e1 : _ = _ := h1;have e2 : _ = _ := h2;go_simp;refine (a0g x2 y2 w').mono ?_;rintro e w2 ⟨rfl, rfl⟩;exact hK _ _ (a02.refl _) rfl
 refine ya ?_;refine yl2 c2 c3 ?_;refine ya ?_;refine yl2 d2 d3 ?_;refine a06 (fun v _ => v = .int .i64 (Mom.cmp (x3, x4) (y3, y4))) rfl rfl (a05 rfl) rfl a0e ?_ ?_
 · intro a w' hR h1 h2 K hK
   have e1 : _ = _ := h1;have e2 : _ = _ := h2;go_simp;refine (a1S (x3, x4) (y3, y4) w').mono ?_;rintro e w2 ⟨rfl, hg⟩;exact hK _ _ hg rfl
 refine a06 (fun v w2 => Rd w2 1 v 3 [.int .i64 (a0Z x1 y1), .int .i64 (a0Z x2 y2), .int .i64 (Mom.cmp (x3, x4) (y3, y4))]) rfl rfl (a05 rfl) rfl (by first | exact (fun _ _ _ h k => Rd.ext h k) | exact (fun _ _ _ h k => Rd.ext h (a02.ext k)) | exact (fun _ _ _ h k => Rd.extV h k)) ?_ ?_
 · intro a w' hR h1 h2 h3 K hK
   have e1 : _ = _ := h1;have e2 : _ = _ := h2;have e3 : _ = _ := h3;have q1 : a.tmps[11]?.getD undef = .int .i64 (a0Z x1 y1) := by simpa using e1
   have q2 : a.tmps[18]?.getD undef = .int .i64 (a0Z x2 y2) := by simpa using e2
   have q3 : a.tmps[23]?.getD undef = .int .i64 (Mom.cmp (x3, x4) (y3, y4)) := by simpa using e3
   go_simp;exact hK _ _ ((a02.refl _).alloc _) (Rd.lit _ #[.int .i64 (a0Z x1 y1), .int .i64 (a0Z x2 y2), .int .i64 (Mom.cmp (x3, x4) (y3, y4))] _ 3 rfl (by unfold maxLen; omega))
 refine a06 (fun v _ => v = .int .i64 (orI (a0Z x1 y1) (orI (a0Z x2 y2) (Mom.cmp (x3, x4) (y3, y4))))) rfl rfl (a05 rfl) rfl a0e ?_ ?_
 · intro a w' hR h1 K hK
   obtain ⟨x, ex, fx⟩ : ∃ x, a.tmps.getD 24 undef = x ∧ (fun v w2 => Rd w2 1 v 3 [.int .i64 (a0Z x1 y1), .int .i64 (a0Z x2 y2), .int .i64 (Mom.cmp (x3, x4) (y3, y4))]) x w' := ⟨_, rfl, h1⟩
   go_simp;refine (b0P _ _ _ _ w' fx).mono ?_;rintro e w2 ⟨rfl, rfl⟩;exact hK _ _ (a02.refl _) rfl
 refine ya ?_;refine a0f ?_;intro w5 hx5 hS
 iterate 19 (rintro _ rfl)
 iterate 1 (intro _ hz; clear hz)
 iterate 2 (rintro _ rfl)
 dsimp only [a1K];go_simp
 go_wp2
 go_ret
 rw [HC.o];exact ⟨rfl, hx.trans hx5⟩
theorem ltA9 (x y : Cnt.K) : Go.Proofs.ltOf Cnt.a6I x y = true ↔ Cnt.klt x y := by
 unfold Go.Proofs.ltOf;simp only [decide_eq_true_eq];exact Cnt.a7s
theorem b11 (x y : Cnt.K) : Go.Proofs.ltOf Cnt.a6I x y = false ↔ ¬ Cnt.klt x y := by
 rw [← ltA9, Bool.not_eq_true]
theorem swoA9 : Go.Sort.SWO (Go.Proofs.ltOf Cnt.a6I) where
 irrefl x := by rw [b11]; exact Cnt.a0r _
 trans x y z h1 h2 := by rw [ltA9] at *; exact Cnt.a0B h1 h2
 ntrans x y z h1 h2 := by
  rw [b11] at *;intro h3
  rcases Cnt.a1y x y with h | h | h
  · exact h1 h
  · rw [h] at h3; exact h2 h3
  · rcases Cnt.a1y y z with k | k | k
    · exact h2 k
    · rw [k] at h; exact Cnt.a0r _ (Cnt.a0B h h3)
    · exact Cnt.a0r _ (Cnt.a0B h3 (Cnt.a0B k h))
theorem b12 (blk off size : Nat) (w : World) : Go.Proofs.CmpLays Tryz.prog 66 #[] encK.enc 4 Cnt.a6I blk off size w :=
 fun _ _ _ _ x y => a95 x y _
theorem b13 (v : Value) (l : List Cnt.K) (base : Nat) (w : World) (ho : OE 66 base w v l) (hl : l.length ≤ 1000000000) :
 Calls Tryz.prog 65 #[v, .func (.func 66) #[] #[]] w fun e w' =>
  e = .returned (.tuple #[]) ∧ ∃ s : List Cnt.K, s.Perm l ∧ s.Pairwise (fun a b => ¬ Cnt.klt b a) ∧ OE 66 base w' v s ∧ w.grownBy w' v.ownBlock := by
 rcases ho.own.2 with ⟨rfl, h0⟩ | ⟨g, cap, cur, rfl, hb, _⟩
 · obtain rfl := List.eq_nil_of_length_eq_zero h0
   refine (AnyF.slices_SortFunc_none Tryz.sortAsk none 0 _ w).mono ?_;rintro e w' ⟨h1, rfl⟩;exact ⟨h1, [], List.Perm.refl _, List.Pairwise.nil, OE.a2F _ _ _, World.grownBy.refl _ _⟩
 · have eg : ∀ args w, (callFunc 66 args).run Tryz.prog w = .ok (.enter 66 args) w := enters_of Tryz.func66 (by kernel_rfl) rfl
   have hown : w.ownsRow base 66 4 (.slice (some ⟨g, 0, none⟩) l.length cap) l.length (l.flatMap encK.enc) := ho.own;have hH := a0R (enc := encK.enc) encK.len encK.pos hown
   have hcon := AnyQ.slices_SortFunc Tryz.sortAsk 4 Tryz.isAgg66 Tryz.sizeOf66 encK.enc encK.len encK.one Cnt.a6I swoA9 66 #[] g 0 cap l.toArray w eg
    (b12 g 0 _ w) hH (hown.lt g rfl).2 (by simp; omega)
   refine hcon.mono ?_;rintro e w' ⟨h1, d', n, os, hp, hs, hw⟩;have hsz : d'.size = l.length := by have := hp.1; simpa using this
   obtain ⟨q1, q2⟩ := a1k (enc := encK.enc) encK.len encK.pos hown hsz hw;refine ⟨h1, d'.toList, by simpa using a5u hp, (a2C hs (by simpa using hsz)).imp (fun {a b} h => (b11 _ _).1 h), ?_, q2⟩
   unfold OE;rw [show d'.toList.length = l.length by simpa using hsz]
   exact q1
def vB (b : Bool) : Value := .bool b
structure NM (w : World) (p b d : Nat) (v : Value) (g : G) (L : List Cnt.K) : Prop where
 box : Blk w p 119 #[v, .int .i64 g.2, .map (some b)]
 nod : a00 d w v g.1
 ne : p ≠ b
 map : ∃ l : List (Cnt.K × Bool), a29 kV vB w b l ∧ (∀ x ∈ l, x.2 = true) ∧ ∀ k, k ∈ l.map (·.1) ↔ k ∈ L
 asc : L.Pairwise Cnt.klt
theorem NM.ext {w w' : World} {p b d : Nat} {v : Value} {g : G} {L : List Cnt.K} (h : NM w p b d v g L) (he : Ext w w') : NM w' p b d v g L := by
 obtain ⟨l, h1, h2, h3⟩ := h.map;exact ⟨h.box.ext he, h.nod.ext he, h.ne, ⟨l, h1.ext he, h2, h3⟩, h.asc⟩
theorem isB {l : List (Cnt.K × Bool)} (hn : (l.map (·.1)).Nodup) (h2 : ∀ x ∈ l, x.2 = true) (k : Cnt.K) : (ofE k l).getD false = decide (k ∈ l.map (·.1)) := by
 unfold ofE
 cases h1 : fdE k l 0 with
 | none =>
  have := a1v.1 h1;rw [decide_eq_false]
  · rfl
  intro hm;obtain ⟨x, hx, e⟩ := List.mem_map.1 hm;exact this x hx e
 | some p =>
 have hm := a3L (show fdE k l 0 = some (p.1, p.2) from h1);rw [decide_eq_true (List.mem_map.2 ⟨_, hm, rfl⟩)];exact h2 _ hm
theorem NM.look {w : World} {p b d : Nat} {v : Value} {g : G} {L : List Cnt.K} (h : NM w p b d v g L) (k : Cnt.K) : (Instr.lookup 117 (.map (some b)) (kV k) false).run Tryz.prog w = .ok (.bool (decide (k ∈ L))) w := by
 obtain ⟨l, h1, h2, h3⟩ := h.map;rw [h1.a7C keyA Tryz.underlying117 (z := false) zeroB k, isB h1.nodup h2];simp only [h3];rfl
theorem a3J (w : World) (b : Nat) : (binOp .neq 117 (.map (some b)) (.map none)).run Tryz.prog w = .ok (.bool true) w := by
 have h := Go.Proofs.run_equalIn_map_nil_sl (P := Tryz.prog) w 9999 117 _ _ (some b) Tryz.underlying117;simp only [binOp];simp [show ∀ t x y, Op.equal t x y = Op.equalIn (9999 + 1) t x y from fun _ _ _ => rfl, h]
theorem a4z (w : World) (p b d : Nat) (v : Value) (g : G) (L : List Cnt.K) (h : NM w p b d v g L) : Calls Tryz.prog 59 #[.pointer (some ⟨p, 0, none⟩)] w fun e w' => e = .returned (.bool true) ∧ w = w' := by
 have hc : w.cell? ⟨p, 2, none⟩ = some (.map (some b)) := h.box.cell 2;have hq := fun w => a3J w b
 clear h
 go_enter Tryz.func59, Tryz.ntmps59
 go_wp2
 go_ret
 exact ⟨rfl, rfl⟩
theorem a4A (w : World) : Calls Tryz.prog 59 #[.pointer none] w fun e w' => e = .returned (.bool false) ∧ w = w' := by
 go_enter Tryz.func59, Tryz.ntmps59
 go_wp2
 go_ret
 exact ⟨rfl, rfl⟩
end Go.Proofs.YtdkejfjcchlnpaaGreat
